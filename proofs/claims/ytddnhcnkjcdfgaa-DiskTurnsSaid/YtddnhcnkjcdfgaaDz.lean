-- DiskWhole: the plain law (begun)
import Derived.Test.YtddnhcnkjcdfgaaDx
import Derived.Test.YtddnhcnkjcdfgaaKo
namespace Go.Proofs.Ytddnhcnkjcdfgaa.M
open Go.RowKit Go.Maps Go.Proofs.YtddnhcnkjcdfgaaW.PrintWords Go.Proofs.YtddnhcnkjcdfgaaW.PrintLast Go.Proofs.YtddnhcnkjcdfgaaW.PrintMore
open Go.Proofs.Ytddnhcnkjcdfgaa.P
set_option linter.unusedVariables false
theorem crashL_len (s : DS) (fs : List Int) : ∀ j, (crashL s fs j).length = s.L.length
  | 0 => rfl
  | j + 1 => by
    unfold crashL
    split
    · rw [List.length_set]; exact crashL_len s fs j
    · exact crashL_len s fs j
theorem crashL_all (s : DS) (hW : ∀ i, i < s.n → (s.W i).length ≤ 1000) (hL : s.L.length = s.n) (i : Nat) (hi : i < s.n) : ∀ j, j ≤ s.keysN.length →
    (crashL s (List.replicate s.n 1000) j).getD i [] = if i ∈ s.keysN.take j then s.cur i else s.L.getD i []
  | 0, _ => by simp [crashL]
  | j + 1, hj => by
    have ih := crashL_all s hW hL i hi j (by omega)
    obtain ⟨hk1, hk2, _⟩ := key_at s j (by omega)
    have hkl := s.keysN_len
    have hf : (List.replicate s.n (1000 : Int)).getD j 0 = 1000 := by
      rw [List.getD_eq_getElem?_getD, List.getElem?_replicate, if_pos (by omega)]; rfl
    have hg : s.keysN.getD j 0 = s.keysN[j]'(by omega) := by rw [List.getD_eq_getElem?_getD, List.getElem?_eq_getElem (by omega)]; rfl
    unfold crashL
    rw [hf, if_pos (by decide), List.take_succ_eq_append_getElem (by omega), ← hg]
    have hlen := hW _ hk1
    have hpos : 0 < (s.W (s.keysN.getD j 0)).length := List.length_pos_iff.2 hk2
    have hm : (min (1000 : Int) ((s.W (s.keysN.getD j 0)).length : Int)).toNat - 1 = (s.W (s.keysN.getD j 0)).length - 1 := by omega
    rw [hm, ← cur_last hk2]
    by_cases e : s.keysN.getD j 0 = i
    · rw [e, List.getD_eq_getElem?_getD, List.getElem?_set_self (by rw [crashL_len, hL]; exact hi), if_pos (by simp)]
      rfl
    · rw [List.getD_eq_getElem?_getD, List.getElem?_set_ne e, ← List.getD_eq_getElem?_getD, ih]
      have e2 : (i ∈ s.keysN.take j ++ [s.keysN.getD j 0]) ↔ i ∈ s.keysN.take j := by
        rw [List.mem_append, List.mem_singleton]
        exact ⟨fun h => h.elim id (fun h => absurd h.symm e), .inl⟩
      simp only [e2]
/-- Great fates make a crash a flush. -/
theorem crash_all (s : DS) (hW : ∀ i, i < s.n → (s.W i).length ≤ 1000) (hL : s.L.length = s.n) (i : Nat) (hi : i < s.n) : (s.crash (List.replicate s.n 1000)).cur i = s.cur i := by
  have h1 : (s.crash (List.replicate s.n 1000)).cur i = (crashL s (List.replicate s.n 1000) (min s.keysN.length (List.replicate s.n (1000 : Int)).length)).getD i [] := rfl
  have hkl := s.keysN_len
  rw [h1, List.length_replicate, Nat.min_eq_left hkl, crashL_all s hW hL i hi _ (Nat.le_refl _), List.take_length]
  by_cases e : s.W i = []
  · rw [if_neg (fun h => ((s.mem_keysN i).1 h).2 e), cur_nil e]
  · rw [if_pos ((s.mem_keysN i).2 ⟨hi, e⟩)]
theorem rd_appL (a b : List S30) (j : Nat) (hj : j < a.length) : rd_T30 (a ++ b) (j : Int) = rd_T30 a (j : Int) := by
  unfold rd_T30
  rw [Int.toNat_natCast, List.getD_eq_getElem?_getD, List.getD_eq_getElem?_getD, List.getElem?_append_left hj]
theorem rd_appR (a b : List S30) (j : Nat) : rd_T30 (a ++ b) ((a.length + j : Nat) : Int) = rd_T30 b (j : Int) := by
  unfold rd_T30
  rw [Int.toNat_natCast, Int.toNat_natCast, List.getD_eq_getElem?_getD, List.getD_eq_getElem?_getD, List.getElem?_append_right (by omega), show a.length + j - a.length = j by omega]
theorem lastOf_appL (a b : List S30) (i : Int) : ∀ m, m ≤ a.length → lastOf (a ++ b) i m = lastOf a i m
  | 0, _ => rfl
  | m + 1, h => by
    unfold lastOf
    rw [rd_appL a b m (by omega), lastOf_appL a b i m (by omega)]
theorem puts_cur (s : DS) (a b : List S30) (i : Nat) (hs : s.cur i = lastOf a (i : Int) a.length) (hp : ∀ j, j < b.length → 0 ≤ (rd_T30 b (j : Int)).f0) : ∀ j, j ≤ b.length → (puts s b j).cur i = lastOf (a ++ b) (i : Int) (a.length + j)
  | 0, _ => by
    rw [Nat.add_zero, lastOf_appL a b _ _ (Nat.le_refl _)]
    exact hs
  | j + 1, h => by
    have ih := puts_cur s a b i hs hp j (by omega)
    have h0 := hp j (by omega)
    show ((puts s b j).put _ _).cur i = lastOf (a ++ b) (i : Int) (a.length + j + 1)
    rw [cur_put, ih]
    conv => rhs; unfold lastOf
    rw [rd_appR]
    by_cases e : (rd_T30 b (j : Int)).f0 = (i : Int)
    · rw [if_pos e, if_pos (by rw [e]; rfl)]
    · rw [if_neg e, if_neg (by omega)]
theorem puts_W (s : DS) (b : List S30) (i : Nat) : ∀ j, ((puts s b j).W i).length ≤ (s.W i).length + j
  | 0 => Nat.le_refl _
  | j + 1 => by
    have ih := puts_W s b i j
    show (if i = (rd_T30 b (j : Int)).f0.toNat then (puts s b j).W (rd_T30 b (j : Int)).f0.toNat ++ [(rd_T30 b (j : Int)).f1] else (puts s b j).W i).length ≤ _
    split
    · rename_i e
      rw [← e, List.length_append]
      simp
      omega
    · omega
theorem puts_L (s : DS) (b : List S30) : ∀ j, (puts s b j).L = s.L
  | 0 => rfl
  | j + 1 => puts_L s b j
theorem whole_great (n : Nat) (out1 out2 : List S30) (hl1 : out1.length ≤ 100) (hl2 : out2.length ≤ 100) (hg1 : Good n out1) (hg2 : Good n out2) (i : Nat) (hi : i < n) :
    ∃ kl, kilnlaw3_last.f kl (out1 ++ out2) (i : Int) ((out1.length : Int) + (out2.length : Int)) = some (((puts (runD n out1 (-1) out1.length).flush out2 out2.length).crash (List.replicate n 1000)).cur i) := by
  have hp : ∀ (o : List S30), Good n o → ∀ j, j < o.length → 0 ≤ (rd_T30 o (j : Int)).f0 := fun o hg j hj => by
    obtain ⟨⟨i, _, e⟩, _⟩ := hg.at_ j hj
    omega
  have hn : (puts (runD n out1 (-1) out1.length).flush out2 out2.length).n = n := by rw [puts_n]; exact runD_n n out1 (-1) out1.length
  have h0 : (runD n out1 (-1) out1.length).flush.cur i = lastOf out1 (i : Int) out1.length := by
    rw [cur_flush _ _ (by rw [runD_n]; exact hi)]
    exact runD_cur n out1 (-1) (hp out1 hg1) i hi _ (Nat.le_refl _)
  have hc := crash_all (puts (runD n out1 (-1) out1.length).flush out2 out2.length) (fun j hj => by have h_ := puts_W (runD n out1 (-1) out1.length).flush out2 j out2.length; have h2_ : ((runD n out1 (-1) out1.length).flush.W j).length = 0 := rfl; omega) (by rw [puts_L, hn]; show ((List.range (runD n out1 (-1) out1.length).n).map _).length = n; rw [List.length_map, List.length_range, runD_n]) i (by rw [hn]; exact hi)
  rw [hn] at hc
  refine ⟨out1.length + out2.length + 1, ?_⟩
  rw [hc, puts_cur _ out1 out2 i h0 (hp out2 hg2) out2.length (Nat.le_refl _)]
  exact last_ok (out1 ++ out2) (i : Int) (by rw [List.length_append]; omega) (out1.length + out2.length) (by rw [List.length_append]; omega)
theorem crashL_is (s : DS) (fs : List Int) (i : Nat) : ∀ j, j ≤ s.keysN.length → (crashL s fs j).getD i [] = s.L.getD i [] ∨ (crashL s fs j).getD i [] ∈ s.W i
  | 0, _ => .inl rfl
  | j + 1, hj => by
    have ih := crashL_is s fs i j (by omega)
    obtain ⟨hk1, hk2, _⟩ := key_at s j (by omega)
    have hpos : 0 < (s.W (s.keysN.getD j 0)).length := List.length_pos_iff.2 hk2
    unfold crashL
    split
    · rename_i hf
      by_cases e : s.keysN.getD j 0 = i
      · rw [e] at hpos ⊢
        by_cases hb : i < (crashL s fs j).length
        · right
          rw [List.getD_eq_getElem?_getD, List.getElem?_set_self hb]
          show (s.W i).getD _ [] ∈ s.W i
          rw [List.getD_eq_getElem?_getD, List.getElem?_eq_getElem (by omega)]
          exact List.getElem_mem _
        · rw [List.set_eq_of_length_le (by omega)]
          exact ih
      · rw [List.getD_eq_getElem?_getD, List.getElem?_set_ne e, ← List.getD_eq_getElem?_getD]
        exact ih
    · exact ih
theorem puts_mem (s : DS) (b : List S30) (i : Nat) (hs : s.W i = []) : ∀ j, j ≤ b.length → ∀ x ∈ (puts s b j).W i, ∃ m, m < b.length ∧ (rd_T30 b (m : Int)).f0.toNat = i ∧ (rd_T30 b (m : Int)).f1 = x
  | 0, _ => fun x hx => by rw [show (puts s b 0).W i = [] from hs] at hx; cases hx
  | j + 1, h => fun x hx => by
    have ih := puts_mem s b i hs j (by omega)
    have hx' : x ∈ (if i = (rd_T30 b (j : Int)).f0.toNat then (puts s b j).W (rd_T30 b (j : Int)).f0.toNat ++ [(rd_T30 b (j : Int)).f1] else (puts s b j).W i) := hx
    split at hx'
    · rename_i e
      rcases List.mem_append.1 hx' with h1 | h1
      · rw [← e] at h1; exact ih x h1
      · exact ⟨j, by omega, e.symm, (List.mem_singleton.1 h1).symm⟩
    · exact ih x hx'
theorem among_l0 (x0 : List Int) (b : List S30) (a : Int) (hN : b.length ≤ 1000) (m : Nat) (hm : m < b.length) (h0 : (rd_T30 b (m : Int)).f0 = a) (h1 : (rd_T30 b (m : Int)).f1 = x0) : ∀ d j, j + d = m → kilnlaw3_among.l0 (d + 1) x0 b a (j : Int) = some true
  | 0, j, e => by
    obtain rfl : j = m := by omega
    unfold kilnlaw3_among.l0
    rw [if_pos (by omega), if_pos (by omega), if_pos h0, if_pos (by rw [h1])]
  | d + 1, j, e => by
    unfold kilnlaw3_among.l0
    have ih := among_l0 x0 b a hN m hm h0 h1 d (j + 1) (by omega)
    rw [if_pos (by omega), if_pos (by omega), w64 _ (by omega) (by omega)]
    split
    · split
      · rfl
      · exact ih
    · exact ih
theorem whole_among (n : Nat) (out1 out2 : List S30) (fs : List Int) (hl2 : out2.length ≤ 100) (hg2 : Good n out2) (i : Nat) (hi : i < n) :
    ∃ ka, kilnlaw3_among.f ka (((puts (runD n out1 (-1) out1.length).flush out2 out2.length).crash fs).L.getD i []) ((runD n out1 (-1) out1.length).flush.L.getD i []) out2 (i : Int) = some true := by
  have h := crashL_is (puts (runD n out1 (-1) out1.length).flush out2 out2.length) fs i (min (puts (runD n out1 (-1) out1.length).flush out2 out2.length).keysN.length fs.length) (Nat.min_le_left _ _)
  have e : ((puts (runD n out1 (-1) out1.length).flush out2 out2.length).crash fs).L = crashL (puts (runD n out1 (-1) out1.length).flush out2 out2.length) fs (min (puts (runD n out1 (-1) out1.length).flush out2 out2.length).keysN.length fs.length) := rfl
  rw [← e, puts_L] at h
  rcases h with h | h
  · refine ⟨0, ?_⟩
    unfold kilnlaw3_among.f
    rw [if_pos (by rw [h])]
  · obtain ⟨m, hm, h0, h1⟩ := puts_mem _ out2 i rfl _ (Nat.le_refl _) _ h
    refine ⟨m + 1, ?_⟩
    unfold kilnlaw3_among.f
    split
    · rfl
    · obtain ⟨⟨i', _, e'⟩, _⟩ := hg2.at_ m hm
      exact among_l0 _ out2 (i : Int) (by omega) m hm (by rw [e'] at h0 ⊢; omega) h1 m 0 (by omega)
def wholeF (_k : Nat) (_a : Int) (_l _m : List S30) (_f : List Int) : Option Bool := some true
theorem whole_row (k : Nat) (a0 : Int) (A1 : Option Addr) (c1 : Nat) (l1 : List S30) (A2 : Option Addr) (c2 : Nat) (l2 : List S30) (A3 : Option Addr) (c3 : Nat) (fs : List Int) (r : Bool) (w : World)
    (hr1 : Kd.C k30 w A1 l1.length l1) (hc1 : l1.length ≤ c1) (hr2 : Kd.C k30 w A2 l2.length l2) (hc2 : l2.length ≤ c2) (hr3 : Kd.C (Kd.int .i64) w A3 fs.length fs) (hc3 : fs.length ≤ c3) (h : wholeF k a0 l1 l2 fs = some r) :
    Calls Try.prog 9 #[.int .i64 a0, .slice A1 l1.length c1, .slice A2 l2.length c2, .slice A3 fs.length c3] w fun e w' => e = .returned (.bool r) ∧ Below w.heap.size w w' := by
  cases h
  obtain ⟨n, hn2, hnm, hm⟩ := made_ok2 a0
  obtain ⟨k1, out1, h1, hl1, hg1⟩ := hm l1
  obtain ⟨k2, out2, h2, hl2, hg2⟩ := hm l2
  exact whole_calls k1 k2 a0 A1 c1 l1 A2 c2 l2 A3 c3 fs w hr1 hc1 hr2 hc2 hr3 hc3 n out1 out2 h1 h2 hn2 hnm hl1 hl2 hg1 hg2 (fun i hi => whole_great n out1 out2 hl1 hl2 hg1 hg2 i hi) (fun i hi => whole_among n out1 out2 fs hl2 hg2 i hi)
theorem whole_pure : ∀ (a0 : Int) (l1 l2 : List S30) (fs : List Int), (Lit.int .i64 a0).wf = true → l1.length ≤ 9223372036854775807 → True → l2.length ≤ 9223372036854775807 → True → fs.length ≤ 9223372036854775807 → (∀ n ∈ fs, (Lit.int .i64 n).wf = true) → ∃ k, wholeF k a0 l1 l2 fs = some true := fun _ _ _ _ _ _ _ _ _ _ _ => ⟨0, rfl⟩
end Go.Proofs.Ytddnhcnkjcdfgaa.M
