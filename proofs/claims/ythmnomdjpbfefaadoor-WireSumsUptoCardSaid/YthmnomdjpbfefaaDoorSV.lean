-- written by programs of this session
import Derived.Test.YthmnomdjpbfefaaDoorSM
import Derived.Test.YthmnomdjpbfefaaDoorSK
namespace Go.Proofs.YthmnomdjpbfefaaDoor.V
open Go.RowKit Go.Proofs.YthmnomdjpbfefaaDoorW.PrintWords Go.Proofs.YthmnomdjpbfefaaDoorW.PrintLast Go.Proofs.YthmnomdjpbfefaaDoorW.PrintMore Go.Proofs.YthmnomdjpbfefaaDoor.M
set_option linter.unusedVariables false
set_option linter.unusedSimpArgs false
def T9 : Bool × List (List Nat × List Nat) := (true, [([], []), ([0], [0]), ([1], [1]), ([], []), ([], []), ([3, 4], [3, 4]), ([5], [5]), ([6, 2], [6]), ([], []), ([], []), ([8, 9], [8, 9]), ([10], [10]), ([11, 7], [11]), ([7, 12], [7, 12]), ([], []), ([], []), ([14, 15], [14, 15]), ([16], [16]), ([17, 12], [17]), ([13, 18], [13, 18]), ([2, 19], [2, 19])])
def B9 : List Nat := [0, 1, 3, 0, 0, 24, 56, 127, 0, 0, 768, 1792, 4095, 8191, 0, 0, 49152, 114688, 253951, 524287, 1048575]
theorem tab9 : rtab .any (opsOf Tryd.f3 9) = T9 := by kernel_rfl
theorem bits9 : waitsOk T9.2 B9 = true := by kernel_rfl
def O9 : List Nat := [1, 2, 6, 7, 11, 12, 13, 17, 18, 19, 20]
theorem base9 : baseOk T9.2 O9 = true := by kernel_rfl
section
variable {ops : Array Oper} {Q : Exit → Act → World → Prop} {a : Act} {w : World} {K : Act → World → Prop} {o : Oper} {N' : Tmp}
theorem lit_step {t : Tmp} {A : Option Addr} {c : Nat} {l : List Int} (hg : o.guard = none) (hd : o.dst = some N') (hop : o.op = .buildSlice 22 1 #[(0, .tmp t)]) (hv : a.tmps[t]? = some (.slice A l.length c)) (hl : l.length ≤ c) (hC : Kd.C (Kd.int .u8) w A l.length l)
    (h : ∀ B c' w1, Below w.heap.size w w1 → Kd.C (Kd.slice 5 (Kd.int .u8)) w1 B 1 [l] → 1 ≤ c' → K (a.put (some N') (.slice B 1 c')) w1) :
    if Region.wanted o (yielded ops a.tmps) = true then Oper.wp Tryd.prog o a w K Q else K (a.put o.dst undef) w := by
  have hw : Region.wanted o (yielded ops a.tmps) = true := by simp [Region.wanted, hg]
  have he : a.eval (.tmp t) = .slice A l.length c := by simp [Act.eval, hv]
  have hF : Kd.F (Kd.int .u8) w (fun k_ => k_ < w.heap.size) A l.length l := Bulk.F_of_C hC
  refine Kd.N_lit_step (Kd.slice 5 (Kd.int .u8)) w.heap.size 23 hw (N' := N') hd (xs := [l]) (inner := [.slice A l.length c]) (ok := fun _ => True) (okp := fun k_ => k_ < w.heap.size) ?hr ?hp (fun _ _ => trivial) trivial (Below.refl _ _) (Nat.le_refl _) (by simp) ?_
  case hr =>
    unfold execOp
    rw [hop]
    simp only [List.map_toArray, List.map_cons, List.map_nil, he]
    try go_simp
    try rfl
  case hp => exact Reps.one (show Kd.FK (Kd.slice 5 (Kd.int .u8)) _ _ l [.slice A l.length c] from Kd.FK_slice_mk hl hF) (Reps.none _ _)
  intro v1 w1 hn hb _ _
  obtain ⟨B, c', rfl⟩ := Kd.N_slice hn
  have hr := Kd.N_reads' hn
  rw [hd]
  exact h B c' w1 hb hr.2.2 hr.2.1
theorem sum_step {t : Tmp} {B : Option Addr} {c : Nat} {l : List Int} {s : Int} (hg : o.guard = none) (hd : o.dst = some N') (hop : o.op = .call { callee := .value (.func 16), args := #[.tmp t], argTypes := #[22] }) (hv : a.tmps[t]? = some (.slice B 1 c)) (hC : Kd.C (Kd.slice 5 (Kd.int .u8)) w B 1 [l]) (hc : 1 ≤ c) (hG : Half w) (hs : wire_Sum.f [l] = some s)
    (h : ∀ w1, Below w.heap.size w w1 → K (a.put (some N') (.int .u32 s)) w1) :
    if Region.wanted o (yielded ops a.tmps) = true then Oper.wp Tryd.prog o a w K Q else K (a.put o.dst undef) w := by
  have hw : Region.wanted o (yielded ops a.tmps) = true := by simp [Region.wanted, hg]
  have he : a.eval (.tmp t) = .slice B 1 c := by simp [Act.eval, hv]
  rw [hd]
  refine goes_ Tryd.func16 (by kernel_rfl) rfl #[.slice B 1 c] hw hd hop (by simp [he]) ?_
  refine (wire_Sum.calls _ _ [l] s _ hC hc hG hs).mono ?_
  rintro e w' ⟨rfl, nd, rfl⟩
  exact ⟨_, rfl, h _ (pw_below_drewN (Below.refl _ _) nd)⟩
theorem xor_step {x y : Tmp} {u v : Int} (hg : o.guard = none) (hd : o.dst = some N') (hop : o.op = .binOp .xor 24 (.tmp x) (.tmp y) 24) (hx : a.tmps[x]? = some (.int .u32 u)) (hy : a.tmps[y]? = some (.int .u32 v))
    (h : K (a.put (some N') (.int .u32 (Go.bits .xor .u32 u v))) w) :
    if Region.wanted o (yielded ops a.tmps) = true then Oper.wp Tryd.prog o a w K Q else K (a.put o.dst undef) w := by
  have hw : Region.wanted o (yielded ops a.tmps) = true := by simp [Region.wanted, hg]
  have hex : a.eval (.tmp x) = .int .u32 u := by simp [Act.eval, hx]
  have hey : a.eval (.tmp y) = .int .u32 v := by simp [Act.eval, hy]
  have hrun : (execOp a.eval o).run Tryd.prog w = .ok (.value (.int .u32 (Go.bits .xor .u32 u v))) w := by
    unfold execOp
    rw [hop]
    simp only [hex, hey]
    go_simp
    try rfl
  rw [if_pos hw]
  unfold Oper.wp
  rw [hrun, Oper.upon_value, hd]
  exact h
theorem neq_step {x y : Tmp} {u v : Int} (hg : o.guard = none) (hd : o.dst = some N') (hop : o.op = .binOp .neq 24 (.tmp x) (.tmp y) 24) (hx : a.tmps[x]? = some (.int .u32 u)) (hy : a.tmps[y]? = some (.int .u32 v))
    (h : K (a.put (some N') (.bool (u != v))) w) :
    if Region.wanted o (yielded ops a.tmps) = true then Oper.wp Tryd.prog o a w K Q else K (a.put o.dst undef) w := by
  have hw : Region.wanted o (yielded ops a.tmps) = true := by simp [Region.wanted, hg]
  have hex : a.eval (.tmp x) = .int .u32 u := by simp [Act.eval, hx]
  have hey : a.eval (.tmp y) = .int .u32 v := by simp [Act.eval, hy]
  have hrun : (execOp a.eval o).run Tryd.prog w = .ok (.value (.bool (u != v))) w := by
    unfold execOp
    rw [hop]
    simp only [hex, hey]
    go_simp
    try rfl
  rw [if_pos hw]
  unfold Oper.wp
  rw [hrun, Oper.upon_value, hd]
  exact h
def L9 (B1 : Option Addr) (k1 : Nat) (B2 : Option Addr) (k2 : Nat) (B3 : Option Addr) (k3 : Nat) (B4 : Option Addr) (k4 : Nat) (s1 s2 s3 s4 : Int) : List (Nat × Tmp × Value) := [(1, 56, .slice B1 1 k1), (2, 57, .int .u32 s1), (6, 61, .slice B2 1 k2), (7, 62, .int .u32 s2), (11, 66, .slice B3 1 k3), (12, 67, .int .u32 s3), (13, 68, .int .u32 (Go.bits .xor .u32 s2 s3)), (17, 72, .slice B4 1 k4), (18, 73, .int .u32 s4), (19, 74, .int .u32 (Go.bits .xor .u32 (Go.bits .xor .u32 s2 s3) s4)), (20, 75, .bool (s1 != (Go.bits .xor .u32 (Go.bits .xor .u32 s2 s3) s4)))]
abbrev IsOp (ops : Array Oper) (i : Nat) (d : Tmp) (p : Op) : Prop := ∃ o : Oper, ops[i]? = some o ∧ o.guard = none ∧ o.dst = some d ∧ o.op = p
abbrev CS (w : World) (B : Option Addr) (k : Nat) (l : List Int) : Prop := Kd.C (Kd.slice 5 (Kd.int .u8)) w B 1 [l] ∧ 1 ≤ k
theorem keep {b : Nat → Bool} {i j : Nat} {w w1 : World} {B : Option Addr} {k : Nat} {l : List Int} (h : b j = true → CS w B k l) (hb : Below w.heap.size w w1) (hij : j ≠ i) : up b i j = true → CS w1 B k l := fun hj => by
  rw [up_ne hij] at hj
  exact ⟨Kd.C_below (h hj).1 hb, (h hj).2⟩
theorem keep0 {b : Nat → Bool} {i j : Nat} {w : World} {B : Option Addr} {k : Nat} {l : List Int} (h : b j = true → CS w B k l) (hij : j ≠ i) : up b i j = true → CS w B k l := fun hj => by
  rw [up_ne hij] at hj
  exact h hj
theorem quad {l : Array Bool} {A1 A2 A3 A4 : Option Addr} {c1 c2 c3 c4 : Nat} {l1 l2 l3 l4 : List Int} {s1 s2 s3 s4 : Int} (hT : rtab .any ops = T9) (hw : waitsOk T9.2 B9 = true) (hl : (lof T9.2.length O9 (fun _ => false) == l.toList && O9.length == 11) = true)
    (i1 : IsOp ops 1 56 (.buildSlice 22 1 #[(0, .tmp 55)]))
    (i2 : IsOp ops 2 57 (.call { callee := .value (.func 16), args := #[.tmp 56], argTypes := #[22] }))
    (i6 : IsOp ops 6 61 (.buildSlice 22 1 #[(0, .tmp 60)]))
    (i7 : IsOp ops 7 62 (.call { callee := .value (.func 16), args := #[.tmp 61], argTypes := #[22] }))
    (i11 : IsOp ops 11 66 (.buildSlice 22 1 #[(0, .tmp 65)]))
    (i12 : IsOp ops 12 67 (.call { callee := .value (.func 16), args := #[.tmp 66], argTypes := #[22] }))
    (i13 : IsOp ops 13 68 (.binOp .xor 24 (.tmp 62) (.tmp 67) 24))
    (i17 : IsOp ops 17 72 (.buildSlice 22 1 #[(0, .tmp 71)]))
    (i18 : IsOp ops 18 73 (.call { callee := .value (.func 16), args := #[.tmp 72], argTypes := #[22] }))
    (i19 : IsOp ops 19 74 (.binOp .xor 24 (.tmp 68) (.tmp 73) 24))
    (i20 : IsOp ops 20 75 (.binOp .neq 24 (.tmp 57) (.tmp 74) 24))
    (hsz : 76 ≤ a.tmps.size) (v1 : a.tmps[55]? = some (.slice A1 l1.length c1)) (v2 : a.tmps[60]? = some (.slice A2 l2.length c2)) (v3 : a.tmps[65]? = some (.slice A3 l3.length c3)) (v4 : a.tmps[71]? = some (.slice A4 l4.length c4))
    (hl1 : l1.length ≤ c1) (hC1 : Kd.C (Kd.int .u8) w A1 l1.length l1) (hs1 : wire_Sum.f [l1] = some s1)
    (hl2 : l2.length ≤ c2) (hC2 : Kd.C (Kd.int .u8) w A2 l2.length l2) (hs2 : wire_Sum.f [l2] = some s2)
    (hl3 : l3.length ≤ c3) (hC3 : Kd.C (Kd.int .u8) w A3 l3.length l3) (hs3 : wire_Sum.f [l3] = some s3)
    (hl4 : l4.length ≤ c4) (hC4 : Kd.C (Kd.int .u8) w A4 l4.length l4) (hs4 : wire_Sum.f [l4] = some s4)
    (hG : Half w)
    (hend : ∀ B1 k1 B2 k2 B3 k3 B4 k4 w', Below w.heap.size w w' → Q .normal (putAll a [(56, .slice B1 1 k1), (57, .int .u32 s1), (61, .slice B2 1 k2), (62, .int .u32 s2), (66, .slice B3 1 k3), (67, .int .u32 s3), (68, .int .u32 (Go.bits .xor .u32 s2 s3)), (72, .slice B4 1 k4), (73, .int .u32 s4), (74, .int .u32 (Go.bits .xor .u32 (Go.bits .xor .u32 s2 s3) s4)), (75, .bool (s1 != (Go.bits .xor .u32 (Go.bits .xor .u32 s2 s3) s4)))]) w') :
    wpAnyLast Tryd.prog .any ops Q (fun _ => True) [] 11 l a w := by
  refine inv_ O9 (fun b a' w' => ∃ B1 k1 B2 k2 B3 k3 B4 k4, a' = putSel a b (L9 B1 k1 B2 k2 B3 k3 B4 k4 s1 s2 s3 s4) ∧ Below w.heap.size w w' ∧ (b 1 = true → CS w' B1 k1 l1) ∧ (b 6 = true → CS w' B2 k2 l2) ∧ (b 11 = true → CS w' B3 k3 l3) ∧ (b 17 = true → CS w' B4 k4 l4)) hT hw base9 hl ?_ ?_ ?_
  · exact ⟨none, 0, none, 0, none, 0, none, 0, by simp [L9, putSel], Below.refl _ _, fun h => absurd h (by decide), fun h => absurd h (by decide), fun h => absurd h (by decide), fun h => absurd h (by decide)⟩
  · unfold O9
    refine steps_cons ?_ ?_
    · rintro b a' w' ⟨B1, k1, B2, k2, B3, k3, B4, k4, ha, hB, q1, q6, q11, q17⟩ hb_ hon hoff
      obtain ⟨o, ho, hg, hd, hp⟩ := i1
      refine ⟨o, ho, fun K hK => ?_⟩
      refine lit_step hg hd hp (by rw [ha]; exact (putSel_off rfl).trans v1) hl1 (Kd.C_below hC1 hB) ?_
      intro B k w1 hb1 hC' hk
      exact hK.out _ _ ⟨B, k, B2, k2, B3, k3, B4, k4, by rw [ha]; exact putSel_upk 0 hb_ rfl rfl rfl, below_step hB hb1, fun _ => ⟨hC', hk⟩, keep q6 hb1 (by decide), keep q11 hb1 (by decide), keep q17 hb1 (by decide)⟩
    refine steps_cons ?_ ?_
    · rintro b a' w' ⟨B1, k1, B2, k2, B3, k3, B4, k4, ha, hB, q1, q6, q11, q17⟩ hb_ hon hoff
      obtain ⟨o, ho, hg, hd, hp⟩ := i2
      refine ⟨o, ho, fun K hK => ?_⟩
      have hq := q1 (hon 1 (by kernel_rfl))
      refine sum_step hg hd hp (by rw [ha]; exact putSel_on (e := (1, 56, .slice B1 1 k1)) 0 rfl rfl (hon 1 (by kernel_rfl)) (Nat.ble_eq_true_of_le (by show 57 ≤ _; omega))) hq.1 hq.2 (Half.below hG hB) hs1 ?_
      intro w1 hb1
      exact hK.out _ _ ⟨B1, k1, B2, k2, B3, k3, B4, k4, by rw [ha]; exact putSel_upk 1 hb_ rfl rfl rfl, below_step hB hb1, keep q1 hb1 (by decide), keep q6 hb1 (by decide), keep q11 hb1 (by decide), keep q17 hb1 (by decide)⟩
    refine steps_cons ?_ ?_
    · rintro b a' w' ⟨B1, k1, B2, k2, B3, k3, B4, k4, ha, hB, q1, q6, q11, q17⟩ hb_ hon hoff
      obtain ⟨o, ho, hg, hd, hp⟩ := i6
      refine ⟨o, ho, fun K hK => ?_⟩
      refine lit_step hg hd hp (by rw [ha]; exact (putSel_off rfl).trans v2) hl2 (Kd.C_below hC2 hB) ?_
      intro B k w1 hb1 hC' hk
      exact hK.out _ _ ⟨B1, k1, B, k, B3, k3, B4, k4, by rw [ha]; exact putSel_upk 2 hb_ rfl rfl rfl, below_step hB hb1, keep q1 hb1 (by decide), fun _ => ⟨hC', hk⟩, keep q11 hb1 (by decide), keep q17 hb1 (by decide)⟩
    refine steps_cons ?_ ?_
    · rintro b a' w' ⟨B1, k1, B2, k2, B3, k3, B4, k4, ha, hB, q1, q6, q11, q17⟩ hb_ hon hoff
      obtain ⟨o, ho, hg, hd, hp⟩ := i7
      refine ⟨o, ho, fun K hK => ?_⟩
      have hq := q6 (hon 6 (by kernel_rfl))
      refine sum_step hg hd hp (by rw [ha]; exact putSel_on (e := (6, 61, .slice B2 1 k2)) 2 rfl rfl (hon 6 (by kernel_rfl)) (Nat.ble_eq_true_of_le (by show 62 ≤ _; omega))) hq.1 hq.2 (Half.below hG hB) hs2 ?_
      intro w1 hb1
      exact hK.out _ _ ⟨B1, k1, B2, k2, B3, k3, B4, k4, by rw [ha]; exact putSel_upk 3 hb_ rfl rfl rfl, below_step hB hb1, keep q1 hb1 (by decide), keep q6 hb1 (by decide), keep q11 hb1 (by decide), keep q17 hb1 (by decide)⟩
    refine steps_cons ?_ ?_
    · rintro b a' w' ⟨B1, k1, B2, k2, B3, k3, B4, k4, ha, hB, q1, q6, q11, q17⟩ hb_ hon hoff
      obtain ⟨o, ho, hg, hd, hp⟩ := i11
      refine ⟨o, ho, fun K hK => ?_⟩
      refine lit_step hg hd hp (by rw [ha]; exact (putSel_off rfl).trans v3) hl3 (Kd.C_below hC3 hB) ?_
      intro B k w1 hb1 hC' hk
      exact hK.out _ _ ⟨B1, k1, B2, k2, B, k, B4, k4, by rw [ha]; exact putSel_upk 4 hb_ rfl rfl rfl, below_step hB hb1, keep q1 hb1 (by decide), keep q6 hb1 (by decide), fun _ => ⟨hC', hk⟩, keep q17 hb1 (by decide)⟩
    refine steps_cons ?_ ?_
    · rintro b a' w' ⟨B1, k1, B2, k2, B3, k3, B4, k4, ha, hB, q1, q6, q11, q17⟩ hb_ hon hoff
      obtain ⟨o, ho, hg, hd, hp⟩ := i12
      refine ⟨o, ho, fun K hK => ?_⟩
      have hq := q11 (hon 11 (by kernel_rfl))
      refine sum_step hg hd hp (by rw [ha]; exact putSel_on (e := (11, 66, .slice B3 1 k3)) 4 rfl rfl (hon 11 (by kernel_rfl)) (Nat.ble_eq_true_of_le (by show 67 ≤ _; omega))) hq.1 hq.2 (Half.below hG hB) hs3 ?_
      intro w1 hb1
      exact hK.out _ _ ⟨B1, k1, B2, k2, B3, k3, B4, k4, by rw [ha]; exact putSel_upk 5 hb_ rfl rfl rfl, below_step hB hb1, keep q1 hb1 (by decide), keep q6 hb1 (by decide), keep q11 hb1 (by decide), keep q17 hb1 (by decide)⟩
    refine steps_cons ?_ ?_
    · rintro b a' w' ⟨B1, k1, B2, k2, B3, k3, B4, k4, ha, hB, q1, q6, q11, q17⟩ hb_ hon hoff
      obtain ⟨o, ho, hg, hd, hp⟩ := i13
      refine ⟨o, ho, fun K hK => ?_⟩
      refine xor_step hg hd hp (by rw [ha]; exact putSel_on (e := (7, 62, .int .u32 s2)) 3 rfl rfl (hon 7 (by kernel_rfl)) (Nat.ble_eq_true_of_le (by show 63 ≤ _; omega))) (by rw [ha]; exact putSel_on (e := (12, 67, .int .u32 s3)) 5 rfl rfl (hon 12 (by kernel_rfl)) (Nat.ble_eq_true_of_le (by show 68 ≤ _; omega))) ?_
      exact hK.out _ _ ⟨B1, k1, B2, k2, B3, k3, B4, k4, by rw [ha]; exact putSel_upk 6 hb_ rfl rfl rfl, hB, keep0 q1 (by decide), keep0 q6 (by decide), keep0 q11 (by decide), keep0 q17 (by decide)⟩
    refine steps_cons ?_ ?_
    · rintro b a' w' ⟨B1, k1, B2, k2, B3, k3, B4, k4, ha, hB, q1, q6, q11, q17⟩ hb_ hon hoff
      obtain ⟨o, ho, hg, hd, hp⟩ := i17
      refine ⟨o, ho, fun K hK => ?_⟩
      refine lit_step hg hd hp (by rw [ha]; exact (putSel_off rfl).trans v4) hl4 (Kd.C_below hC4 hB) ?_
      intro B k w1 hb1 hC' hk
      exact hK.out _ _ ⟨B1, k1, B2, k2, B3, k3, B, k, by rw [ha]; exact putSel_upk 7 hb_ rfl rfl rfl, below_step hB hb1, keep q1 hb1 (by decide), keep q6 hb1 (by decide), keep q11 hb1 (by decide), fun _ => ⟨hC', hk⟩⟩
    refine steps_cons ?_ ?_
    · rintro b a' w' ⟨B1, k1, B2, k2, B3, k3, B4, k4, ha, hB, q1, q6, q11, q17⟩ hb_ hon hoff
      obtain ⟨o, ho, hg, hd, hp⟩ := i18
      refine ⟨o, ho, fun K hK => ?_⟩
      have hq := q17 (hon 17 (by kernel_rfl))
      refine sum_step hg hd hp (by rw [ha]; exact putSel_on (e := (17, 72, .slice B4 1 k4)) 7 rfl rfl (hon 17 (by kernel_rfl)) (Nat.ble_eq_true_of_le (by show 73 ≤ _; omega))) hq.1 hq.2 (Half.below hG hB) hs4 ?_
      intro w1 hb1
      exact hK.out _ _ ⟨B1, k1, B2, k2, B3, k3, B4, k4, by rw [ha]; exact putSel_upk 8 hb_ rfl rfl rfl, below_step hB hb1, keep q1 hb1 (by decide), keep q6 hb1 (by decide), keep q11 hb1 (by decide), keep q17 hb1 (by decide)⟩
    refine steps_cons ?_ ?_
    · rintro b a' w' ⟨B1, k1, B2, k2, B3, k3, B4, k4, ha, hB, q1, q6, q11, q17⟩ hb_ hon hoff
      obtain ⟨o, ho, hg, hd, hp⟩ := i19
      refine ⟨o, ho, fun K hK => ?_⟩
      refine xor_step hg hd hp (by rw [ha]; exact putSel_on (e := (13, 68, .int .u32 (Go.bits .xor .u32 s2 s3))) 6 rfl rfl (hon 13 (by kernel_rfl)) (Nat.ble_eq_true_of_le (by show 69 ≤ _; omega))) (by rw [ha]; exact putSel_on (e := (18, 73, .int .u32 s4)) 8 rfl rfl (hon 18 (by kernel_rfl)) (Nat.ble_eq_true_of_le (by show 74 ≤ _; omega))) ?_
      exact hK.out _ _ ⟨B1, k1, B2, k2, B3, k3, B4, k4, by rw [ha]; exact putSel_upk 9 hb_ rfl rfl rfl, hB, keep0 q1 (by decide), keep0 q6 (by decide), keep0 q11 (by decide), keep0 q17 (by decide)⟩
    refine steps_cons ?_ ?_
    · rintro b a' w' ⟨B1, k1, B2, k2, B3, k3, B4, k4, ha, hB, q1, q6, q11, q17⟩ hb_ hon hoff
      obtain ⟨o, ho, hg, hd, hp⟩ := i20
      refine ⟨o, ho, fun K hK => ?_⟩
      refine neq_step hg hd hp (by rw [ha]; exact putSel_on (e := (2, 57, .int .u32 s1)) 1 rfl rfl (hon 2 (by kernel_rfl)) (Nat.ble_eq_true_of_le (by show 58 ≤ _; omega))) (by rw [ha]; exact putSel_on (e := (19, 74, .int .u32 (Go.bits .xor .u32 (Go.bits .xor .u32 s2 s3) s4))) 9 rfl rfl (hon 19 (by kernel_rfl)) (Nat.ble_eq_true_of_le (by show 75 ≤ _; omega))) ?_
      exact hK.out _ _ ⟨B1, k1, B2, k2, B3, k3, B4, k4, by rw [ha]; exact putSel_upk 10 hb_ rfl rfl rfl, hB, keep0 q1 (by decide), keep0 q6 (by decide), keep0 q11 (by decide), keep0 q17 (by decide)⟩
    exact steps_nil
  · rintro b a' w' hall ⟨B1, k1, B2, k2, B3, k3, B4, k4, ha, hB, _⟩
    have e : a' = (putAll a [(56, .slice B1 1 k1), (57, .int .u32 s1), (61, .slice B2 1 k2), (62, .int .u32 s2), (66, .slice B3 1 k3), (67, .int .u32 s3), (68, .int .u32 (Go.bits .xor .u32 s2 s3)), (72, .slice B4 1 k4), (73, .int .u32 s4), (74, .int .u32 (Go.bits .xor .u32 (Go.bits .xor .u32 s2 s3) s4)), (75, .bool (s1 != (Go.bits .xor .u32 (Go.bits .xor .u32 s2 s3) s4)))]) := by
      rw [ha]; unfold L9
      simp only [putSel, putAll, if_pos (hall 1 (by kernel_rfl)), if_pos (hall 2 (by kernel_rfl)), if_pos (hall 6 (by kernel_rfl)), if_pos (hall 7 (by kernel_rfl)), if_pos (hall 11 (by kernel_rfl)), if_pos (hall 12 (by kernel_rfl)), if_pos (hall 13 (by kernel_rfl)), if_pos (hall 17 (by kernel_rfl)), if_pos (hall 18 (by kernel_rfl)), if_pos (hall 19 (by kernel_rfl)), if_pos (hall 20 (by kernel_rfl))]
    rw [e]
    exact hend _ _ _ _ _ _ _ _ _ hB
def sum1.f (l : List Int) : Option Int := wire_Sum.f [l]
theorem norm2 {Q : Exit → Act → World → Prop} {a a' : Act} {w : World} (ha : a = a') (h : Q .normal a' w) : Q .normal a w := by subst ha; exact h
end
end Go.Proofs.YthmnomdjpbfefaaDoor.V
