import Derived.Test.YthmnomdjpbfefaaDoorE
import Derived.Test.YthmnomdjpbfefaaDoorPx9
namespace Go.Proofs.YthmnomdjpbfefaaDoor.A
open Go.RowKit Go.Proofs.YthmnomdjpbfefaaDoorW.PrintWords Go.Proofs.YthmnomdjpbfefaaDoorW.PrintLast Go.Proofs.YthmnomdjpbfefaaDoorW.PrintMore Go.Proofs.YthmnomdjpbfefaaDoor.P
set_option linter.unusedVariables false
set_option linter.unusedSimpArgs false

theorem join_l0 (L : List (List Int)) (hn : L.length ≤ 1000000000) : ∀ (m i : Nat) (xs : List Int), i + m = L.length → xs.length + (L.drop i).flatten.length < 140737488355328 →
    Ev (fun k => kilnlaw1_join.l0 k L xs (i : Int)) (xs ++ (L.drop i).flatten) := by
  intro m
  induction m with
  | zero =>
    intro i xs h hl
    refine Ev.step (fun k => by simp only [kilnlaw1_join.l0]; rw [if_neg (by omega)]) (Ev.some_ ?_)
    rw [List.drop_of_length_le (by omega)]; simp
  | succ m ih =>
    intro i xs h hl
    have hd : L.drop i = rd_L1 L (i : Int) :: L.drop (i + 1) := by
      rw [List.drop_eq_getElem_cons (show i < L.length by omega)]
      unfold rd_L1
      rw [Int.toNat_natCast, List.getD_eq_getElem?_getD, List.getElem?_eq_getElem (show i < L.length by omega)]; rfl
    rw [hd] at hl ⊢
    rw [List.flatten_cons, List.length_append] at hl
    refine Ev.step (fun k => by simp only [kilnlaw1_join.l0]; rfl) ?_
    refine Ev.pos (by omega) (Ev.pos (by omega) (Ev.pos (by omega) ?_))
    rw [w64 (by omega) (by omega), List.flatten_cons, ← List.append_assoc]
    exact ih (i + 1) (xs ++ rd_L1 L (i : Int)) (by omega) (by rw [List.length_append]; omega)
theorem join_ev {L : List (List Int)} (hn : L.length ≤ 1000000000) (hl : L.flatten.length < 140737488355328) : Ev (fun k => kilnlaw1_join.f k L) L.flatten := by
  unfold kilnlaw1_join.f
  have := join_l0 L hn L.length 0 [] (by omega) (by simpa using hl)
  simpa using this

theorem readBR_at {b : List Int} (hl : b.length ≤ 140737488351232) (pre rest : List Int) {most : Int} (hm : (b.length : Int) ≤ most) :
    readBR (pre ++ (bytesL b ++ rest)) (pre.length : Int) most = (b, ((pre.length + (bytesL b).length : Nat) : Int), 0) := by
  unfold readBR
  have hr := readUR_at (v := b.length) (by omega) pre (b ++ rest)
  rw [if_neg (by simp; omega)]
  unfold bytesL
  rw [List.append_assoc, hr, if_pos rfl]
  simp only []
  rw [if_neg (by omega), if_neg (by simp; omega)]
  have hsum : ((pre.length + (uintL b.length).length : Nat) : Int) + (b.length : Int) = ((pre.length + (uintL b.length).length + b.length : Nat) : Int) := by omega
  rw [hsum, Int.toNat_natCast, Int.toNat_natCast, List.drop_take, show pre.length + (uintL b.length).length + b.length - (pre.length + (uintL b.length).length) = b.length by omega]
  rw [← List.drop_drop, List.drop_left, List.drop_left, List.take_left]
  rw [List.length_append, Nat.add_assoc]
theorem readFR_at {l : List Int} (hb : bytes_ l) (h1 : 1 ≤ l.length) (h8 : l.length ≤ 8) (pre rest : List Int) :
    readFR (pre ++ (l ++ rest)) (pre.length : Int) (l.length : Int) = (((leV l : Nat) : Int), ((pre.length + l.length : Nat) : Int), 0) := by
  unfold readFR
  rw [if_neg (by simp; omega), if_neg (by simp; omega), Int.toNat_natCast, Int.toNat_natCast, List.drop_left, List.take_left]
  congr 2

/-! ## WireBack -/
def goodB (b : List Int) (w : S43) : Prop := bytes_ w.f0 ∧ 0 < w.f0.length ∧ w.f0.length ≤ 1048600 ∧ ∀ all pre rest : List Int, bytes_ all → all.length ≤ 10000000 → all = pre ++ (w.f0 ++ rest) →
  Ev (fun k => kilnlaw1_reads.f k all (pre.length : Int) w.f0 w.f1 w.f2 w.f3 b ((pre.length + w.f0.length : Nat) : Int)) true

theorem good_all {v : Nat} (hv : v < 18446744073709551616) {b : List Int} (hb : bytes_ b) (hl : b.length ≤ 1048576) : ∀ w ∈ writtenL v b, goodB b w := by
  intro w hw
  unfold writtenL at hw
  rcases List.mem_append.1 hw with hw | hw
  · rcases List.mem_cons.1 hw with rfl | hw
    · have := uintL_len10 hv
      refine ⟨bytes_uint v, uintL_pos v, by simp only; omega, fun all pre rest hall hal e => ?_⟩
      simp only [] at e ⊢
      unfold kilnlaw1_reads.f
      refine Ev.pos rfl (Ev.bind (readU_ev hall (by omega) _) ?_)
      rw [e, readUR_at hv]
      exact Ev.pos rfl (Ev.pos rfl (Ev.bind (Ev.const (num_some _)) (Ev.some_ rfl)))
    · obtain rfl := List.mem_singleton.1 hw
      have h1 := uintL_pos b.length
      have h2 := uintL_len10 (v := b.length) (by omega)
      refine ⟨bytesL_ok hb, by simp only [bytesL, List.length_append]; omega, by simp only [bytesL, List.length_append]; omega, fun all pre rest hall hal e => ?_⟩
      simp only [] at e ⊢
      unfold kilnlaw1_reads.f
      refine Ev.neg (by decide) (Ev.neg (by decide) (Ev.bind (readB_ev hall (by omega) _ (by omega)) (Ev.bind (readB_ev hall (by omega) _ (by decide)) ?_)))
      rw [e, readBR_at (by omega) pre rest (Int.le_refl _), readBR_at (by omega) pre rest (by omega)]
      have hs : kilnlaw1_same.f b b = some true := by rw [same_some hb hb]; simp
      exact Ev.bind (Ev.const hs) (Ev.pos rfl (Ev.pos rfl (Ev.bind (Ev.const (num_some _)) (Ev.pos rfl (Ev.bind (Ev.const hs) (Ev.pos rfl (Ev.pos rfl (Ev.bind (Ev.const (num_some _)) (Ev.some_ rfl)))))))))
  · obtain ⟨n, hn, rfl⟩ := List.mem_map.1 hw
    rw [List.mem_range'] at hn
    obtain ⟨i, hi, rfl⟩ := hn
    refine ⟨bytes_fix _ _, by simp only [wF, fixL_len]; omega, by simp only [wF, fixL_len]; omega, fun all pre rest hall hal e => ?_⟩
    simp only [wF] at e ⊢
    unfold kilnlaw1_reads.f
    refine Ev.neg (by decide) (Ev.pos rfl (Ev.bind (readF_ev hall (by omega) _ _) ?_))
    have hr := readFR_at (bytes_fix (1 + 1 * i) (v % 256 ^ (1 + 1 * i))) (by rw [fixL_len]; omega) (by rw [fixL_len]; omega) pre rest
    rw [leV_fix, Nat.mod_mod, fixL_len] at hr
    rw [e, hr, fixL_len]
    exact Ev.pos rfl (Ev.pos rfl (Ev.bind (Ev.const (num_some _)) (Ev.some_ rfl)))

theorem back_l0 {b ahead behind : List Int} (ha : bytes_ ahead) (hh : bytes_ behind) (la : ahead.length ≤ 1048576) (lh : behind.length ≤ 1048576) (L : List S43) (hlen : L.length ≤ 100) (hL : ∀ w ∈ L, goodB b w) :
    ∀ (m i : Nat), i + m = L.length → Ev (fun k => kilnlaw1_WireBack.l0 k b ahead behind L (i : Int)) true := by
  intro m
  induction m with
  | zero =>
    intro i h
    refine Ev.step (fun k => by simp only [kilnlaw1_WireBack.l0]; rw [if_neg (by omega)]) ?_
    exact Ev.bind started_ev (Ev.now _)
  | succ m ih =>
    intro i h
    have hm : rd_T43 L (i : Int) ∈ L := by
      unfold rd_T43
      rw [Int.toNat_natCast, List.getD_eq_getElem?_getD, List.getElem?_eq_getElem (by omega)]
      exact List.getElem_mem _
    obtain ⟨hwb, hw0, hwl, hwk⟩ := hL _ hm
    generalize hw : rd_T43 L (i : Int) = w at hm hwb hw0 hwl hwk
    have next : Ev (fun k => kilnlaw1_WireBack.l0 k b ahead behind L (wrap64 ((i : Int) + 1))) true := by
      rw [w64 (by omega) (by omega)]; exact ih (i + 1) (by omega)
    refine Ev.step (fun k => by simp only [kilnlaw1_WireBack.l0]; rw [hw]) ?_
    have hf : ([ahead, w.f0, behind] : List (List Int)).flatten = ahead ++ (w.f0 ++ behind) := by simp
    have hj := join_ev (L := [ahead, w.f0, behind]) (by simp) (by rw [hf]; simp only [List.length_append]; omega)
    rw [hf] at hj
    refine Ev.pos (by omega) (Ev.pos (by omega) (Ev.bind hj (Ev.neg (by omega) ?_)))
    rw [w64 (by omega) (by omega)]
    have hr := hwk (ahead ++ (w.f0 ++ behind)) ahead behind (bytes_append ha (bytes_append hwb hh)) (by simp only [List.length_append]; omega) rfl
    rw [show ((ahead.length + w.f0.length : Nat) : Int) = (ahead.length : Int) + (w.f0.length : Int) by omega] at hr
    exact Ev.bind hr (Ev.pos rfl next)

theorem back : ∀ (a0 : Int) (l1 l2 l3 : List Int), (Lit.int .u64 a0).wf = true → l1.length ≤ 1048576 → (∀ x ∈ l1, (Lit.int .u8 x).wf = true) → l2.length ≤ 1048576 → (∀ x ∈ l2, (Lit.int .u8 x).wf = true) → l3.length ≤ 1048576 → (∀ x ∈ l3, (Lit.int .u8 x).wf = true) →
    ∃ k, kilnlaw1_WireBack.f k a0 l1 l2 l3 = some true := by
  intro a0 l1 l2 l3 h0 n1 h1 n2 h2 n3 h3
  obtain ⟨h0, h0'⟩ := u64_wf h0
  obtain ⟨v, rfl⟩ := Int.eq_ofNat_of_zero_le h0
  apply Ev.rounds
  unfold kilnlaw1_WireBack.f
  refine Ev.bind (written_ev (by omega) (by omega)) ?_
  exact back_l0 (bytes_wf h2) (bytes_wf h3) n2 n3 _ (by simp [writtenL]) (good_all (by omega) (bytes_wf h1) n1) 10 0 (by simp [writtenL])
end Go.Proofs.YthmnomdjpbfefaaDoor.A
