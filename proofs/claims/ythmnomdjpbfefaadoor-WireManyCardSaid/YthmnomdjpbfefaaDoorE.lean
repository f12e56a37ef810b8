import Derived.Test.YthmnomdjpbfefaaDoorD
import Derived.Test.YthmnomdjpbfefaaDoorPx11
namespace Go.Proofs.YthmnomdjpbfefaaDoor.A
open Go.RowKit Go.Proofs.YthmnomdjpbfefaaDoorW.PrintWords Go.Proofs.YthmnomdjpbfefaaDoorW.PrintLast Go.Proofs.YthmnomdjpbfefaaDoorW.PrintMore Go.Proofs.YthmnomdjpbfefaaDoor.P
set_option linter.unusedVariables false
set_option linter.unusedSimpArgs false

/-! ## what the writers write -/
def wF (v n : Nat) : S43 := ⟨fixL (v % 256 ^ n) n, 4, (n : Int), ((v % 256 ^ n : Nat) : Int)⟩
def writtenL (v : Nat) (b : List Int) : List S43 := [⟨uintL v, 2, 0, (v : Int)⟩, ⟨bytesL b, 6, (b.length : Int), 0⟩] ++ (List.range' 1 8).map (wF v)

theorem shl1 (n : Nat) (h : n < 8) : shl .u64 1 (wrap64 (8 * (n : Int))) = ((256 ^ n : Nat) : Int) := by
  rw [w64 (by omega) (by omega)]
  unfold shl
  rw [show (8 * (n : Int)).toNat = 8 * n by omega, Nat.min_eq_left (show 8 * n ≤ IntKind.u64.bits from by show 8 * n ≤ 64; omega), p256]
  rw [show ((1 : Int) * 2 ^ (8 * n)) = ((2 ^ (8 * n) : Nat) : Int) by simp]
  have h3 : 2 ^ (8 * n) ≤ 2 ^ 56 := Nat.pow_le_pow_right (by decide) (by omega)
  have h4 : (2 : Nat) ^ 56 = 72057594037927936 := by decide +kernel
  rw [h4] at h3
  have h5 := Nat.two_pow_pos (8 * n)
  generalize 2 ^ (8 * n) = z at h3 h5
  exact u64w (by omega) (by omega)
theorem fixR_ok (v n : Nat) (h1 : 1 ≤ n) (h2 : n ≤ 8) : fixR (v % 256 ^ n) (n : Int) = (fixL (v % 256 ^ n) n, 0) := by
  unfold fixR
  rw [if_neg (by omega), Int.toNat_natCast, if_pos (Nat.div_eq_of_lt (Nat.mod_lt _ (Nat.pow_pos (by decide))))]
theorem tmod_nat (a b : Nat) : Int.tmod (a : Int) (b : Int) = ((a % b : Nat) : Int) := by
  rw [Int.tmod_eq_emod_of_nonneg (by omega)]; omega

theorem written_l0 {v : Nat} (hv : v < 18446744073709551616) : ∀ (m n : Nat) (xs : List S43), 1 ≤ n → n + m = 9 → xs.length + m ≤ 100 →
    Ev (fun k => kilnlaw1_written.l0 k (v : Int) xs (n : Int)) (xs ++ (List.range' n m).map (wF v)) := by
  intro m
  induction m with
  | zero =>
    intro n xs h1 h hl
    refine Ev.step (fun k => by simp only [kilnlaw1_written.l0]; rw [if_neg (by omega)]) (Ev.some_ (by simp))
  | succ m ih =>
    intro n xs h1 h hl
    have step : ∀ w : S43, w = wF v n → Ev (fun k => if xs.length < 2932031007402 then kilnlaw1_written.l0 k (v : Int) (xs ++ [w]) (wrap64 ((n : Int) + 1)) else none) (xs ++ (List.range' n (m + 1)).map (wF v)) := by
      rintro w rfl
      refine Ev.pos (by omega) ?_
      rw [w64 (by omega) (by omega), List.range'_succ, List.map_cons]
      rw [show xs ++ wF v n :: (List.range' (n + 1) m).map (wF v) = (xs ++ [wF v n]) ++ (List.range' (n + 1) m).map (wF v) by simp]
      exact ih (n + 1) (xs ++ [wF v n]) (by omega) (by omega) (by simp; omega)
    refine Ev.step (fun k => by simp only [kilnlaw1_written.l0]; rfl) ?_
    refine Ev.pos (by omega) ?_
    by_cases h8 : n < 8
    · refine Ev.pos (by omega) (Ev.pos (by rw [w64 (by omega) (by omega)]; omega) (Ev.neg (by rw [shl1 n h8]; have := Nat.pow_pos (n := n) (show 0 < 256 by decide); omega) ?_))
      rw [shl1 n h8, tmod_nat]
      have hlt : v % 256 ^ n < 18446744073709551616 := Nat.lt_of_le_of_lt (Nat.mod_le _ _) hv
      refine Ev.bind (fixed_ev hlt n) ?_
      rw [fixR_ok v n h1 (by omega)]
      exact step _ rfl
    · refine Ev.neg (by omega) ?_
      obtain rfl : n = 8 := by omega
      refine Ev.bind (fixed_ev hv 8) ?_
      have hm : v % 256 ^ 8 = v := Nat.mod_eq_of_lt hv
      have hR := fixR_ok v 8 (by decide) (by decide)
      rw [hm] at hR
      rw [show ((8 : Nat) : Int) = 8 from rfl] at hR
      rw [hR]
      exact step _ (by unfold wF; rw [hm])

theorem written_ev {v : Nat} (hv : v < 18446744073709551616) {b : List Int} (hb : b.length ≤ 140737488351232) : Ev (fun k => kilnlaw1_written.f k (v : Int) b) (writtenL v b) := by
  unfold kilnlaw1_written.f
  refine Ev.bind (uint_ev (by omega) (by omega)) (Ev.bind (bytes_ev hb) ?_)
  rw [Int.toNat_natCast]
  exact written_l0 hv 8 1 _ (by decide) rfl (by simp)

/-! ## beginnings that are shorter -/
def cutE (b : List Int) (w : S43) (c : List Int) : Int :=
  if w.f1 = 2 then (readUR c 0).2.2 else if w.f1 = 4 then (readFR c 0 w.f2).2.2 else (readBR c 0 (b.length : Int)).2.2

theorem cut_uint {v : Nat} (hv : v < 18446744073709551616) {k : Nat} (hk : k < (uintL v).length) : (readUR ((uintL v).take k) 0).2.2 = 10 := by
  unfold readUR
  rw [if_neg (by omega)]
  simp only [Int.toNat_zero, List.drop_zero]
  have := pU_short v 0 k (by decide) hv hk
  unfold tellU
  rw [if_neg (by omega)]
  exact this
theorem readUR_at {v : Nat} (hv : v < 18446744073709551616) (pre rest : List Int) : readUR (pre ++ (uintL v ++ rest)) (pre.length : Int) = ((v : Int), ((pre.length + (uintL v).length : Nat) : Int), 0) := by
  unfold readUR
  rw [if_neg (by simp; omega), Int.toNat_natCast, List.drop_left, pU_uint v 0 rest (by decide) hv (fun h => absurd h (by decide))]
  simp [tellU]
theorem cut_bytes {b : List Int} (hb : bytes_ b) (hl : b.length ≤ 140737488351232) {k : Nat} (hk : k < (bytesL b).length) : (readBR ((bytesL b).take k) 0 (b.length : Int)).2.2 = 10 := by
  unfold readBR
  rw [if_neg (by omega)]
  by_cases h : k < (uintL b.length).length
  · have e : (bytesL b).take k = (uintL b.length).take k := by unfold bytesL; rw [List.take_append_of_le_length (by omega)]
    have e2 := cut_uint (v := b.length) (by omega) h
    rw [e, if_neg (by omega)]
    exact e2
  · have e : (bytesL b).take k = [] ++ (uintL b.length ++ b.take (k - (uintL b.length).length)) := by
      unfold bytesL; rw [List.take_append, List.take_of_length_le (by omega), List.nil_append]
    have hr := readUR_at (v := b.length) (by omega) [] (b.take (k - (uintL b.length).length))
    rw [show (([] : List Int).length : Int) = 0 from rfl] at hr
    unfold bytesL at hk
    rw [List.length_append] at hk
    rw [e, hr, if_pos rfl, if_neg (by simp), if_pos (by simp; omega)]

theorem cut_all {v : Nat} (hv : v < 18446744073709551616) {b : List Int} (hb : bytes_ b) (hl : b.length ≤ 140737488351232) : ∀ w ∈ writtenL v b, bytes_ w.f0 ∧ 0 < w.f0.length ∧ w.f0.length ≤ 140737488351242 ∧ ∀ k, k < w.f0.length → cutE b w (w.f0.take k) = 10 := by
  intro w hw
  unfold writtenL at hw
  rcases List.mem_append.1 hw with hw | hw
  · rcases List.mem_cons.1 hw with rfl | hw
    · have := uintL_len10 hv
      exact ⟨bytes_uint v, uintL_pos v, by simp only; omega, fun k hk => by unfold cutE; rw [if_pos rfl]; exact cut_uint hv hk⟩
    · obtain rfl := List.mem_singleton.1 hw
      have := uintL_pos b.length
      have := uintL_len10 (v := b.length) (by omega)
      refine ⟨bytesL_ok hb, by simp only [bytesL, List.length_append]; omega, by simp only [bytesL, List.length_append]; omega, fun k hk => ?_⟩
      unfold cutE; rw [if_neg (show ¬ (6 : Int) = 2 by decide), if_neg (show ¬ (6 : Int) = 4 by decide)]; exact cut_bytes hb hl hk
  · obtain ⟨n, hn, rfl⟩ := List.mem_map.1 hw
    rw [List.mem_range'] at hn
    obtain ⟨i, hi, rfl⟩ := hn
    refine ⟨bytes_fix _ _, by simp only [wF, fixL_len]; omega, by simp only [wF, fixL_len]; omega, fun k hk => ?_⟩
    simp only [wF, fixL_len] at hk
    show (if (4 : Int) = 2 then _ else if (4 : Int) = 4 then (readFR ((fixL (v % 256 ^ (1 + 1 * i)) (1 + 1 * i)).take k) 0 ((1 + 1 * i : Nat) : Int)).2.2 else _) = _
    rw [if_neg (by decide), if_pos rfl]
    unfold readFR
    rw [if_neg (by omega), if_pos (by rw [List.length_take, fixL_len]; omega)]

theorem num_some (x : Int) : kilnlaw1_num.f x = some x := rfl

theorem cuts_l0 {v : Nat} (hv : v < 18446744073709551616) {b : List Int} (hb : bytes_ b) (hl : b.length ≤ 140737488351232) (cut : Int) (hcut : -9223372036854775808 ≤ cut ∧ cut ≤ 9223372036854775807) (L : List S43) (hlen : L.length ≤ 100) (hL : ∀ w ∈ L, bytes_ w.f0 ∧ 0 < w.f0.length ∧ w.f0.length ≤ 140737488351242 ∧ ∀ k, k < w.f0.length → cutE b w (w.f0.take k) = 10) :
    ∀ (m i : Nat), i + m = L.length → Ev (fun k => kilnlaw1_WireCuts.l0 k b cut L (i : Int)) true := by
  intro m
  induction m with
  | zero =>
    intro i h
    refine Ev.step (fun k => by simp only [kilnlaw1_WireCuts.l0]; rw [if_neg (by omega)]) ?_
    exact Ev.bind started_ev (Ev.now _)
  | succ m ih =>
    intro i h
    have hm : rd_T43 L (i : Int) ∈ L := by
      unfold rd_T43
      rw [Int.toNat_natCast, List.getD_eq_getElem?_getD, List.getElem?_eq_getElem (by omega)]
      exact List.getElem_mem _
    obtain ⟨hwb, hw0, hwl, hwk⟩ := hL _ hm
    generalize hw : rd_T43 L (i : Int) = w at hm hwb hw0 hwl hwk
    have next : Ev (fun k => kilnlaw1_WireCuts.l0 k b cut L (wrap64 ((i : Int) + 1))) true := by
      rw [w64 (by omega) (by omega)]; exact ih (i + 1) (by omega)
    have join : ∀ q : Nat, q < w.f0.length → Ev (fun k => kilnlaw1_WireCuts.j1 k b cut L (i : Int) (q : Int)) true := by
      intro q hq
      refine Ev.step (fun k => by simp only [kilnlaw1_WireCuts.j1]; rw [hw]) ?_
      refine Ev.pos (by omega) (Ev.pos (by omega) (Ev.pos (by omega) (Ev.pos (by omega) (Ev.bind (a := w.f0.take q) (Ev.some_ (by rw [Int.toNat_natCast])) ?_))))
      have hc := hwk q hq
      have hcb := bytes_take hwb q
      have hcl : (w.f0.take q).length ≤ 140737488355327 := by rw [List.length_take]; omega
      unfold cutE at hc
      by_cases h2 : w.f1 = 2
      · rw [if_pos h2] at hc
        exact Ev.pos h2 (Ev.bind (readU_ev hcb (by omega) 0) (Ev.bind (Ev.const (num_some _)) (Ev.pos hc next)))
      · rw [if_neg h2] at hc
        refine Ev.neg h2 ?_
        by_cases h4 : w.f1 = 4
        · rw [if_pos h4] at hc
          exact Ev.pos h4 (Ev.bind (readF_ev hcb (by omega) 0 _) (Ev.bind (Ev.const (num_some _)) (Ev.pos hc next)))
        · rw [if_neg h4] at hc
          exact Ev.neg h4 (Ev.bind (readB_ev hcb hcl 0 (by omega)) (Ev.bind (Ev.const (num_some _)) (Ev.pos hc next)))
    refine Ev.step (fun k => by simp only [kilnlaw1_WireCuts.l0]; rw [hw]) ?_
    refine Ev.pos (by omega) (Ev.pos (by omega) (Ev.neg (by omega) ?_))
    have hlo : -(w.f0.length : Int) < Int.tmod cut (w.f0.length : Int) ∧ Int.tmod cut (w.f0.length : Int) < (w.f0.length : Int) := by
      have h1 := Int.tmod_lt_of_pos cut (show (0 : Int) < w.f0.length by omega)
      have h2 := Int.lt_tmod_of_pos cut (show (0 : Int) < w.f0.length by omega)
      exact ⟨h2, h1⟩
    generalize Int.tmod cut (w.f0.length : Int) = t at hlo
    by_cases hn : t < 0
    · refine Ev.pos hn ?_
      rw [w64 (by omega) (by omega), show t + (w.f0.length : Int) = ((t + w.f0.length).toNat : Int) by omega]
      exact join _ (by omega)
    · refine Ev.neg hn ?_
      rw [show t = (t.toNat : Int) by omega]
      exact join _ (by omega)

theorem cuts : ∀ (a0 : Int) (l1 : List Int) (a2 : Int), (Lit.int .u64 a0).wf = true → l1.length ≤ 140737488351232 → (∀ x ∈ l1, (Lit.int .u8 x).wf = true) → (Lit.int .i64 a2).wf = true →
    ∃ k, kilnlaw1_WireCuts.f k a0 l1 a2 = some true := by
  intro a0 l1 a2 h0 n1 h1 h2
  obtain ⟨h0, h0'⟩ := u64_wf h0
  obtain ⟨v, rfl⟩ := Int.eq_ofNat_of_zero_le h0
  have hb := bytes_wf h1
  apply Ev.rounds
  unfold kilnlaw1_WireCuts.f
  refine Ev.bind (written_ev (by omega) n1) ?_
  have hlen : (writtenL v l1).length = 10 := by simp [writtenL]
  refine cuts_l0 (v := v) (by omega) hb n1 a2 ?_ _ (by omega) (cut_all (by omega) hb n1) 10 0 (by omega)
  simp [Lit.wf, IntKind.min, IntKind.max, IntKind.signed, IntKind.bits] at h2
  omega
end Go.Proofs.YthmnomdjpbfefaaDoor.A
