-- written by programs of this session
import Derived.Test.YthmnomdjpbfefaaDoorSG
import Derived.Test.YthmnomdjpbfefaaDoorSN
import Derived.Test.YthmnomdjpbfefaaDoorSUx1
namespace Go.Proofs.YthmnomdjpbfefaaDoor.A
open Go.RowKit Go.Proofs.YthmnomdjpbfefaaDoorW.PrintWords Go.Proofs.YthmnomdjpbfefaaDoorW.PrintLast Go.Proofs.YthmnomdjpbfefaaDoorW.PrintMore Go.Proofs.YthmnomdjpbfefaaDoor.P Go.Proofs.YthmnomdjpbfefaaDoor.M Go.Proofs.YthmnomdjpbfefaaDoor.Crc
set_option linter.unusedVariables false
set_option linter.unusedSimpArgs false
def x3 : List Int → List Int → List Int → List Int
  | a :: xs, b :: ys, c :: zs => Go.bits .xor .u8 (Go.bits .xor .u8 a b) c :: x3 xs ys zs
  | _, _, _ => []
theorem x3_snoc : ∀ (xs ys zs : List Int) (a b c : Int), xs.length = ys.length → ys.length = zs.length → x3 (xs ++ [a]) (ys ++ [b]) (zs ++ [c]) = x3 xs ys zs ++ [Go.bits .xor .u8 (Go.bits .xor .u8 a b) c]
  | [], [], [], _, _, _, _, _ => rfl
  | _ :: xs, _ :: ys, _ :: zs, a, b, c, h1, h2 => by
    simp only [List.cons_append, x3]
    rw [x3_snoc xs ys zs a b c (by simpa using h1) (by simpa using h2)]
theorem x3_len : ∀ (xs ys zs : List Int), xs.length = ys.length → ys.length = zs.length → (x3 xs ys zs).length = xs.length
  | [], _, _, _, _ => by simp [x3]
  | _ :: xs, [], _, h, _ => by simp at h
  | _ :: xs, _ :: ys, [], _, h => by simp at h
  | _ :: xs, _ :: ys, _ :: zs, h1, h2 => by
    simp only [x3, List.length_cons]
    rw [x3_len xs ys zs (by simpa using h1) (by simpa using h2)]
theorem xor8 {a b : Nat} (ha : a < 256) (hb : b < 256) : Go.bits .xor .u8 (a : Int) (b : Int) = ((a ^^^ b : Nat) : Int) := u8_xor_nat a b ha hb
theorem xor_lt8 {a b : Nat} (ha : a < 256) (hb : b < 256) : a ^^^ b < 256 := Nat.xor_lt_two_pow (n := 8) ha hb
theorem regroup (u v w a b c : Nat) : (u ^^^ v ^^^ w) ^^^ (a ^^^ b ^^^ c) = (u ^^^ a) ^^^ (v ^^^ b) ^^^ (w ^^^ c) := by
  apply Nat.eq_of_testBit_eq
  intro i
  simp only [Nat.testBit_xor]
  cases u.testBit i <;> cases v.testBit i <;> cases w.testBit i <;> cases a.testBit i <;> cases b.testBit i <;> cases c.testBit i <;> rfl
theorem bstep_x3 (u v w : Nat) {a b c : Int} (ha : 0 ≤ a ∧ a < 256) (hb : 0 ≤ b ∧ b < 256) (hc : 0 ≤ c ∧ c < 256) :
    bstep (u ^^^ v ^^^ w) (Go.bits .xor .u8 (Go.bits .xor .u8 a b) c) = bstep u a ^^^ bstep v b ^^^ bstep w c := by
  obtain ⟨a, rfl⟩ := Int.eq_ofNat_of_zero_le ha.1
  obtain ⟨b, rfl⟩ := Int.eq_ofNat_of_zero_le hb.1
  obtain ⟨c, rfl⟩ := Int.eq_ofNat_of_zero_le hc.1
  have h1 := xor_lt8 (a := a) (b := b) (by omega) (by omega)
  have h2 := xor_lt8 (a := a ^^^ b) (b := c) h1 (by omega)
  rw [xor8 (by omega) (by omega), xor8 h1 (by omega), bstep_S, bstep_S, bstep_S, bstep_S, ← Sn_xor, ← Sn_xor]
  congr 1
  rw [show (((a ^^^ b ^^^ c : Nat) : Int) % 4294967296).toNat = a ^^^ b ^^^ c by omega, show ((a : Int) % 4294967296).toNat = a by omega, show ((b : Int) % 4294967296).toNat = b by omega, show ((c : Int) % 4294967296).toNat = c by omega]
  exact regroup u v w a b c
theorem sum_x3 : ∀ (xs ys zs : List Int) (u v w : Nat), bytes_ xs → bytes_ ys → bytes_ zs → xs.length = ys.length → ys.length = zs.length →
    sumB (u ^^^ v ^^^ w) (x3 xs ys zs) = sumB u xs ^^^ sumB v ys ^^^ sumB w zs
  | [], [], [], _, _, _, _, _, _, _, _ => rfl
  | a :: xs, b :: ys, c :: zs, u, v, w, ha, hb, hc, h1, h2 => by
    show sumB (bstep _ _) _ = sumB (bstep u a) xs ^^^ sumB (bstep v b) ys ^^^ sumB (bstep w c) zs
    rw [bstep_x3 u v w (ha a (List.mem_cons_self ..)) (hb b (List.mem_cons_self ..)) (hc c (List.mem_cons_self ..))]
    exact sum_x3 xs ys zs _ _ _ (fun x hx => ha x (List.mem_cons_of_mem _ hx)) (fun x hx => hb x (List.mem_cons_of_mem _ hx)) (fun x hx => hc x (List.mem_cons_of_mem _ hx)) (by simpa using h1) (by simpa using h2)
def sumI (l : List Int) : Int := ((sumB 4294967295 l ^^^ 4294967295 : Nat) : Int)
theorem sum1_some {l : List Int} (h : l.length ≤ 9223372036854775807) : wire_Sum.f [l] = some (sumI l) := by
  have hf : fits [l] = true := by simp [fits, h]
  rw [wire_Sum.f, if_pos hf]; rfl
theorem sumB_flatten : ∀ (p : List (List Int)) (r : Nat), sumB r p.flatten = sumP r p
  | [], _ => rfl
  | b :: p, r => by
    rw [List.flatten_cons, sumB_app]
    exact sumB_flatten p (sumB r b)
theorem sumP_some {p : List (List Int)} (hp : p.length ≤ 9223372036854775807) (hl : ∀ b ∈ p, b.length ≤ 9223372036854775807) : wire_Sum.f p = some (sumI p.flatten) := by
  rw [wire_Sum.f, if_pos]
  · unfold sumI; rw [sumB_flatten]
  · unfold fits
    rw [Bool.and_eq_true, List.all_eq_true, decide_eq_true_iff]
    exact ⟨hp, fun b hb => decide_eq_true (hl b hb)⟩
theorem sumI_x3 {xs ys zs : List Int} (ha : bytes_ xs) (hb : bytes_ ys) (hc : bytes_ zs) (h1 : xs.length = ys.length) (h2 : ys.length = zs.length) :
    sumI (x3 xs ys zs) = Go.bits .xor .u32 (Go.bits .xor .u32 (sumI xs) (sumI ys)) (sumI zs) := by
  unfold sumI
  have la := xor_lt32 (sumB_lt xs (r := 4294967295) (by decide)) (b := 4294967295) (by decide)
  have lb := xor_lt32 (sumB_lt ys (r := 4294967295) (by decide)) (b := 4294967295) (by decide)
  have lc := xor_lt32 (sumB_lt zs (r := 4294967295) (by decide)) (b := 4294967295) (by decide)
  rw [u32_xor_nat _ _ la lb, u32_xor_nat _ _ (xor_lt32 la lb) lc]
  have h := sum_x3 xs ys zs 4294967295 4294967295 4294967295 ha hb hc h1 h2
  rw [show (4294967295 ^^^ 4294967295 ^^^ 4294967295 : Nat) = 4294967295 by decide] at h
  rw [h]
  congr 1
  generalize sumB 4294967295 xs = x
  generalize sumB 4294967295 ys = y
  generalize sumB 4294967295 zs = z
  have := regroup x y z 4294967295 4294967295 4294967295
  rw [show (4294967295 ^^^ 4294967295 ^^^ 4294967295 : Nat) = 4294967295 by decide] at this
  exact this
theorem flatten_le : ∀ (p : List (List Int)) (n : Nat), (∀ b ∈ p, b.length ≤ n) → p.flatten.length ≤ p.length * n
  | [], _, _ => by simp
  | b :: p, n, h => by
    have h1 := flatten_le p n (fun x hx => h x (List.mem_cons_of_mem _ hx))
    have h2 := h b (List.mem_cons_self ..)
    rw [List.flatten_cons, List.length_append, List.length_cons, Nat.add_mul, Nat.one_mul]
    omega
theorem take_snoc {l : List Int} {i : Nat} (h : i < l.length) : l.take (i + 1) = l.take i ++ [rd l (i : Int)] := by
  rw [List.take_succ_eq_append_getElem h]
  unfold rd
  rw [Int.toNat_natCast, List.getD_eq_getElem?_getD, List.getElem?_eq_getElem h]; rfl
theorem sums_l0 {p : List (List Int)} {a b c : List Int} (hp : p.length ≤ 1048576) (hq : ∀ x ∈ p, x.length ≤ 1048576) (ha : bytes_ a) (hb : bytes_ b) (hc : bytes_ c) (la : a.length ≤ 1048576) (lb : b.length ≤ 1048576) (lc : c.length ≤ 1048576)
    (n : Nat) (na : n ≤ a.length) (nb : n ≤ b.length) (nc : n ≤ c.length) : ∀ (m i : Nat), i + m = n →
    Ev (fun k => U.kilnlaw1_WireSums.l0 k p a b c (n : Int) (x3 (a.take i) (b.take i) (c.take i)) (i : Int)) true := by
  intro m
  induction m with
  | zero =>
    intro i hi
    obtain rfl : i = n := by omega
    have e1 : (a.take i).length = (b.take i).length := by simp; omega
    have e2 : (b.take i).length = (c.take i).length := by simp; omega
    have e3 := x3_len _ _ _ e1 e2
    have e4 : (a.take i).length ≤ 1048576 := by simp; omega
    refine Ev.step (fun k => by simp only [U.kilnlaw1_WireSums.l0]; rw [if_neg (by omega)]) ?_
    refine Ev.bind (Ev.const (sum1_some (by omega))) (Ev.pos (by omega) (Ev.pos (by omega) ?_))
    rw [Int.toNat_natCast]
    refine Ev.bind (Ev.const (sum1_some (by omega))) (Ev.pos (by omega) (Ev.bind (Ev.const (sum1_some (by omega))) (Ev.pos (by omega) (Ev.bind (Ev.const (sum1_some (by omega))) ?_))))
    refine Ev.pos (sumI_x3 (bytes_take ha i) (bytes_take hb i) (bytes_take hc i) e1 e2) (Ev.bind started_ev (Ev.pos rfl ?_))
    have hfl := flatten_le p 1048576 hq
    have hfl2 : p.flatten.length ≤ 1099511627776 := Nat.le_trans hfl (by omega)
    refine Ev.bind (Ev.const (sumP_some (by omega) (fun x hx => by have := hq x hx; omega))) (Ev.bind (join_ev (by omega) (by omega)) (Ev.bind (Ev.const (sum1_some (by omega))) (Ev.pos rfl ?_)))
    have hab : ([a, b] : List (List Int)).flatten.length ≤ 2097152 := by simp; omega
    refine Ev.bind (Ev.const (sumP_some (by simp) (fun x hx => by simp at hx; rcases hx with rfl | rfl <;> omega))) (Ev.bind (join_ev (by simp) (by omega)) (Ev.bind (Ev.const (sum1_some (by omega))) (Ev.some_ (by simp))))
  | succ m ih =>
    intro i hi
    refine Ev.step (fun k => by simp only [U.kilnlaw1_WireSums.l0]; rw [if_pos (by omega), if_pos (by omega), if_pos (by omega), if_pos (by omega), if_pos (by omega)]) ?_
    have e1 : (a.take i).length = (b.take i).length := by simp; omega
    have e2 : (b.take i).length = (c.take i).length := by simp; omega
    have e3 := x3_len _ _ _ e1 e2
    have e4 : (a.take i).length ≤ 1048576 := by simp; omega
    refine Ev.pos (by omega) ?_
    rw [w64 (by omega) (by omega), ← x3_snoc _ _ _ _ _ _ e1 e2, ← take_snoc (by omega), ← take_snoc (by omega), ← take_snoc (by omega)]
    exact ih (i + 1) (by omega)
theorem sums (p : List (List Int)) (a b c : List Int) (hp : p.length ≤ 1048576) (hq : ∀ x ∈ p, bytes_ x ∧ x.length ≤ 1048576) (la : a.length ≤ 1048576) (ha : ∀ x ∈ a, (Lit.int .u8 x).wf = true) (lb : b.length ≤ 1048576) (hb : ∀ x ∈ b, (Lit.int .u8 x).wf = true) (lc : c.length ≤ 1048576) (hc : ∀ x ∈ c, (Lit.int .u8 x).wf = true) :
    ∃ k, U.kilnlaw1_WireSums.f k p a b c = some true := by
  apply Ev.rounds
  unfold U.kilnlaw1_WireSums.f
  refine Ev.bind (a := 3421780262) (Ev.const (by decide +kernel)) (Ev.pos rfl (Ev.bind (a := 0) (Ev.const (by decide +kernel)) (Ev.pos rfl (Ev.bind (a := 0) (Ev.const (by decide +kernel)) ?_))))
  refine Ev.step (fun k => by simp only [U.kilnlaw1_WireSums.j0]; rw [if_neg (by decide)]) ?_
  have e : ∃ n : Nat, (mn (mn (a.length : Int) (b.length : Int)) (c.length : Int)) = (n : Int) ∧ n ≤ a.length ∧ n ≤ b.length ∧ n ≤ c.length := by
    unfold mn
    repeat' split
    all_goals first | exact ⟨a.length, rfl, by omega, by omega, by omega⟩ | exact ⟨b.length, rfl, by omega, by omega, by omega⟩ | exact ⟨c.length, rfl, by omega, by omega, by omega⟩
  obtain ⟨n, e, na, nb, nc⟩ := e
  rw [e]
  exact sums_l0 hp (fun x hx => (hq x hx).2) (bytes_wf ha) (bytes_wf hb) (bytes_wf hc) la lb lc n na nb nc n 0 (Nat.zero_add _)
end Go.Proofs.YthmnomdjpbfefaaDoor.A
