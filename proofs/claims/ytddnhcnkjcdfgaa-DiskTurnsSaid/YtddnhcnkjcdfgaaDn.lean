-- DiskTells: the plain law
import Derived.Test.YtddnhcnkjcdfgaaDm
namespace Go.Proofs.Ytddnhcnkjcdfgaa.M
open Go.RowKit Go.Maps Go.Proofs.YtddnhcnkjcdfgaaW.PrintWords Go.Proofs.YtddnhcnkjcdfgaaW.PrintLast Go.Proofs.YtddnhcnkjcdfgaaW.PrintMore
open Go.Proofs.Ytddnhcnkjcdfgaa.P
set_option linter.unusedVariables false
set_option linter.unusedSimpArgs false
theorem w64 (x : Int) (h : -9223372036854775808 ≤ x) (h2 : x < 9223372036854775808) : wrap64 x = x := by unfold wrap64; omega
theorem mod_ok (a m : Int) (hm : 0 < m) (hM : m < 4611686018427387904) : ∃ r, kilnlaw3_mod.f a m = some r ∧ 0 ≤ r ∧ r < m := by
  unfold kilnlaw3_mod.f
  rw [if_neg (by omega)]
  have h1 : Int.tmod a m < m := Int.tmod_lt_of_pos a hm
  have h2 : -m < Int.tmod a m := by
    have h3 := Int.tmod_lt_of_pos (-a) hm
    rw [Int.neg_tmod] at h3
    omega
  by_cases h : Int.tmod a m < 0
  · rw [if_pos h, w64 _ (by omega) (by omega)]
    exact ⟨_, rfl, by omega, by omega⟩
  · rw [if_neg h]
    exact ⟨_, rfl, by omega, h1⟩
theorem up_ {α : Type} {g : Nat → Option α} (h : ∀ k, LeO (g k) (g (k + 1))) (k : Nat) : ∀ d, LeO (g k) (g (k + d))
  | 0 => LeO.refl _
  | d + 1 => (up_ h k d).trans (h (k + d))
theorem sector_l0 (x0 : List Int) : ∀ (m : Nat) (x3 : List Int) (j : Nat), x3.length = 512 → j + m = 512 → ∃ r, kilnlaw3_sector.l0 (m + 1) x0 x3 (j : Int) = some r ∧ r.length = 512
  | 0, x3, j, hl, hj => by
    unfold kilnlaw3_sector.l0
    rw [if_neg (by omega)]
    exact ⟨_, rfl, hl⟩
  | m + 1, x3, j, hl, hj => by
    unfold kilnlaw3_sector.l0
    rw [if_pos (by omega)]
    by_cases h0 : (x0.length : Int) > 0
    · rw [if_pos h0, if_neg (by omega), if_pos (Int.tmod_nonneg _ (by omega)), if_pos (Int.tmod_lt_of_pos _ h0), if_pos (by omega), w64 _ (by omega) (by omega)]
      exact sector_l0 x0 m _ (j + 1) (by rw [List.length_set]; exact hl) (by omega)
    · rw [if_neg h0]
      exact ⟨_, rfl, hl⟩
theorem sector_ok (b : List Int) (d : Nat) : ∃ r, kilnlaw3_sector.f (513 + d) b = some r ∧ r.length = 512 := by
  obtain ⟨r, h, hl⟩ := sector_l0 b 512 (List.replicate 512 0) 0 (by rw [List.length_replicate]) (by omega)
  refine ⟨r, up_ (g := fun k => kilnlaw3_sector.f k b) (kilnlaw3_sector.mono b) 513 d r ?_, hl⟩
  show kilnlaw3_sector.f 513 b = some r
  unfold kilnlaw3_sector.f
  rw [if_pos (by decide)]
  exact h
/-- The last of the first m writes to a sector. -/
def lastOf (out : List S30) (i : Int) : Nat → List Int
  | 0 => zeros
  | m + 1 => if (rd_T30 out (m : Int)).f0 = i then (rd_T30 out (m : Int)).f1 else lastOf out i m
theorem last_l0 (out : List S30) (i : Int) (hN : out.length ≤ 1000000) : ∀ m, m ≤ out.length → kilnlaw3_last.l0 (m + 1) out i ((m : Int) - 1) = some (lastOf out i m)
  | 0, _ => by
    unfold kilnlaw3_last.l0
    rw [if_neg (by omega), if_pos (by decide)]
    rfl
  | m + 1, h => by
    unfold kilnlaw3_last.l0
    rw [show ((m + 1 : Nat) : Int) - 1 = (m : Int) by omega, if_pos (by omega), if_pos (by omega), if_pos (by omega), lastOf]
    by_cases e : (rd_T30 out (m : Int)).f0 = i
    · rw [if_pos e, if_pos e]
    · rw [if_neg e, if_neg e, w64 _ (by omega) (by omega)]
      exact last_l0 out i hN m (by omega)
theorem last_ok (out : List S30) (i : Int) (hN : out.length ≤ 1000000) (m : Nat) (h : m ≤ out.length) : kilnlaw3_last.f (m + 1) out i (m : Int) = some (lastOf out i m) := by
  unfold kilnlaw3_last.f
  rw [w64 _ (by omega) (by omega)]
  exact last_l0 out i hN m h
theorem cur_put (s : DS) (i : Nat) (b : List Int) (j : Nat) : (s.put i b).cur j = if j = i then b else s.cur j := by
  unfold DS.cur DS.put
  by_cases e : j = i
  · subst e; simp
  · simp [e]
theorem cur_flush (s : DS) (j : Nat) (hj : j < s.n) : s.flush.cur j = s.cur j := by
  have h1 : s.flush.cur j = ((List.range s.n).map s.cur).getD j [] := rfl
  rw [h1, List.getD_eq_getElem?_getD, List.getElem?_map, List.getElem?_range hj]
  rfl
theorem runD_cur (n : Nat) (out : List S30) (fl : Int) (hp : ∀ j, j < out.length → 0 ≤ (rd_T30 out (j : Int)).f0) (i : Nat) (hi : i < n) : ∀ j, j ≤ out.length → (runD n out fl j).cur i = lastOf out (i : Int) j
  | 0, _ => by
    show (List.replicate n zeros).getD i [] = zeros
    rw [List.getD_eq_getElem?_getD, List.getElem?_replicate, if_pos hi]
    rfl
  | j + 1, h => by
    have ih := runD_cur n out fl hp i hi j (by omega)
    have h0 := hp j (by omega)
    have key : ((runD n out fl j).put (rd_T30 out (j : Int)).f0.toNat (rd_T30 out (j : Int)).f1).cur i = lastOf out (i : Int) (j + 1) := by
      rw [cur_put, ih, lastOf]
      by_cases e : (rd_T30 out (j : Int)).f0 = (i : Int)
      · rw [if_pos e, if_pos (by rw [e]; rfl)]
      · rw [if_neg e, if_neg (by omega)]
    unfold runD
    split
    · rw [cur_flush _ _ (by show i < (runD n out fl j).n; rw [runD_n]; exact hi)]; exact key
    · exact key
theorem runD_L (n : Nat) (out : List S30) (fl : Int) (hp : ∀ j, j < out.length → 0 ≤ (rd_T30 out (j : Int)).f0) (i : Nat) (hi : i < n) : ∀ j, j ≤ out.length → (runD n out fl j).L.getD i [] = lastOf out (i : Int) (if 0 ≤ fl ∧ fl < (j : Int) then fl.toNat + 1 else 0)
  | 0, _ => by
    rw [if_neg (by omega)]
    show (List.replicate n zeros).getD i [] = zeros
    rw [List.getD_eq_getElem?_getD, List.getElem?_replicate, if_pos hi]
    rfl
  | j + 1, h => by
    have ih := runD_L n out fl hp i hi j (by omega)
    have hc := runD_cur n out fl hp i hi (j + 1) h
    unfold runD at hc ⊢
    by_cases e : (j : Int) = fl
    · rw [if_pos e] at hc ⊢
      rw [if_pos (by omega), show fl.toNat = j by omega, ← hc]
      rfl
    · rw [if_neg e]
      show (runD n out fl j).L.getD i [] = _
      rw [ih]
      by_cases c : 0 ≤ fl ∧ fl < (j : Int)
      · rw [if_pos c, if_pos (by omega)]
      · rw [if_neg c, if_neg (by omega)]
def Good (n : Nat) (out : List S30) : Prop := ∀ x ∈ out, (∃ i : Nat, i < n ∧ x.f0 = (i : Int)) ∧ x.f1.length = 512
theorem made_end (l1 : List S30) (n : Nat) (hn : 2 ≤ n) (x8 : List S30) (x9 : Int) : kilnlaw3_made.j1 1 l1 (n : Int) x8 x9 false = some (0, (n : Int), x8) := by
  unfold kilnlaw3_made.j1
  rw [if_neg (by decide), if_neg (by omega)]
theorem made_l0 (l1 : List S30) (n : Nat) (hn : 2 ≤ n) (hm : n ≤ 64) : ∀ (m : Nat) (x8 : List S30) (j : Nat), x8.length = j → j + m = 100 → Good n x8 → ∃ k out, kilnlaw3_made.l0 k l1 (n : Int) x8 (j : Int) = some (0, (n : Int), out) ∧ out.length ≤ 100 ∧ Good n out
  | 0, x8, j, hl, hj, hg => by
    refine ⟨2, x8, ?_, by omega, hg⟩
    unfold kilnlaw3_made.l0
    rw [show decide ((j : Int) < 100) = false from decide_eq_false (by omega), made_end l1 n hn]
    split <;> rfl
  | m + 1, x8, j, hl, hj, hg => by
    by_cases hc : (j : Int) < (l1.length : Int)
    · obtain ⟨r, hr, hr0, hr1⟩ := mod_ok (rd_T30 l1 (j : Int)).f0 (n : Int) (by omega) (by omega)
      have hsec := fun d => sector_ok (rd_T30 l1 (j : Int)).f1 d
      obtain ⟨b, _, hbl⟩ := hsec 0
      obtain ⟨b, hb0, hbl⟩ := hsec 0
      obtain ⟨k, out, hk, ho, hgo⟩ := made_l0 l1 n hn hm m (x8 ++ [⟨r, b⟩]) (j + 1) (by rw [List.length_append]; simp [hl]) (by omega) (by
        intro x hx
        rcases List.mem_append.1 hx with h | h
        · exact hg x h
        · obtain rfl := List.mem_singleton.1 h
          exact ⟨⟨r.toNat, by omega, by show r = _; omega⟩, hbl⟩)
      refine ⟨k + 513 + 2, out, ?_, ho, hgo⟩
      unfold kilnlaw3_made.l0
      rw [if_pos hc, show decide ((j : Int) < 100) = true from decide_eq_true (by omega)]
      unfold kilnlaw3_made.j1
      rw [if_pos rfl, if_pos (by omega), if_pos hc, hr, Option.bind_some]
      have hb1 : kilnlaw3_sector.f (k + 513) (rd_T30 l1 (j : Int)).f1 = some b := by
        have := up_ (g := fun k => kilnlaw3_sector.f k (rd_T30 l1 (j : Int)).f1) (kilnlaw3_sector.mono _) 513 k b hb0
        rw [show k + 513 = 513 + k by omega]
        exact this
      rw [hb1, Option.bind_some, if_pos (by omega), w64 _ (by omega) (by omega)]
      have h_ := up_ (g := fun k => kilnlaw3_made.l0 k l1 (n : Int) (x8 ++ [⟨r, b⟩]) ((j + 1 : Nat) : Int)) (fun k => (kilnlaw3_made.mono_l k).1 _ _ _ _) k 513
      have h2_ := h_ _ hk
      rw [show (j : Int) + 1 = ((j + 1 : Nat) : Int) from by omega]
      first
        | with_reducible exact h2_
        | fail
    · refine ⟨2, x8, ?_, by omega, hg⟩
      unfold kilnlaw3_made.l0
      rw [if_neg hc, made_end l1 n hn]
theorem made_ok (a0 : Int) (l1 : List S30) : ∃ k n out, kilnlaw3_made.f k a0 l1 = some (0, ((n : Nat) : Int), out) ∧ 2 ≤ n ∧ n ≤ 64 ∧ out.length ≤ 100 ∧ Good n out := by
  obtain ⟨r, hr, hr0, hr1⟩ := mod_ok a0 63 (by omega) (by omega)
  obtain ⟨k, out, hk, ho, hg⟩ := made_l0 l1 (r.toNat + 2) (by omega) (by omega) 100 [] 0 rfl rfl (fun x hx => by cases hx)
  refine ⟨k, r.toNat + 2, out, ?_, by omega, by omega, ho, hg⟩
  unfold kilnlaw3_made.f
  rw [hr, Option.bind_some, w64 _ (by omega) (by omega), show 2 + r = ((r.toNat + 2 : Nat) : Int) by omega]
  exact hk
theorem Good.at_ {n : Nat} {out : List S30} (h : Good n out) (j : Nat) (hj : j < out.length) : (∃ i : Nat, i < n ∧ (rd_T30 out (j : Int)).f0 = (i : Int)) ∧ (rd_T30 out (j : Int)).f1.length = 512 := by
  refine h _ ?_
  unfold rd_T30
  rw [Int.toNat_natCast, List.getD_eq_getElem?_getD, List.getElem?_eq_getElem hj]
  exact List.getElem_mem hj
theorem diskTells_all (a0 : Int) (A1 : Option Addr) (c1 : Nat) (l1 : List (S30)) (a2 : Int) (w : World) (hr1 : Kd.C k30 w A1 l1.length l1) (hc1 : l1.length ≤ c1) :
    Calls Try.prog 3 #[.int .i64 a0, .slice A1 l1.length c1, .int .i64 a2] w fun e w' => e = .returned (.bool true) ∧ Below w.heap.size w w' := by
  obtain ⟨k, n, out, hk, h2, hm, hlen, hg⟩ := made_ok a0 l1
  have hp : ∀ j, j < out.length → 0 ≤ (rd_T30 out (j : Int)).f0 := fun j hj => by
    obtain ⟨⟨i, _, e⟩, _⟩ := hg.at_ j hj
    omega
  refine diskTells_calls k a0 A1 c1 l1 a2 w hr1 hc1 0 n out n hk h2 hm rfl hlen (fun j hj => hg.at_ j hj) (fun i hi => ⟨out.length + 1, ?_⟩) (fun i hi => ?_)
  · rw [runD_cur n out a2 hp i hi _ (Nat.le_refl _)]
    exact last_ok out (i : Int) (by omega) out.length (Nat.le_refl _)
  · rw [runD_L n out a2 hp i hi _ (Nat.le_refl _)]
    by_cases c : 0 ≤ a2 ∧ a2 < (out.length : Int)
    · rw [if_pos c, if_pos c]
      refine ⟨a2.toNat + 1 + 1, ?_⟩
      have h_ := last_ok out (i : Int) (by omega) (a2.toNat + 1) (by omega)
      rw [show ((a2.toNat + 1 : Nat) : Int) = wrap64 (a2 + 1) from by rw [w64 _ (by omega) (by omega)]; omega] at h_
      exact h_
    · rw [if_neg c, if_neg c]
      exact ⟨0 + 1, last_ok out (i : Int) (by omega) 0 (by omega)⟩
end Go.Proofs.Ytddnhcnkjcdfgaa.M
