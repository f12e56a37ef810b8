-- DiskGreat: the plain law
import Derived.Test.YtddnhcnkjcdfgaaEc
namespace Go.Proofs.Ytddnhcnkjcdfgaa.M
open Go.RowKit Go.Maps Go.Proofs.YtddnhcnkjcdfgaaW.PrintWords Go.Proofs.YtddnhcnkjcdfgaaW.PrintLast Go.Proofs.YtddnhcnkjcdfgaaW.PrintMore
open Go.Proofs.Ytddnhcnkjcdfgaa.P
set_option linter.unusedVariables false
set_option linter.unusedSimpArgs false
/-- A sector's writes behind j rounds. -/
def wrL (T i : Nat) : Nat → List (List Int)
  | 0 => []
  | j + 1 => if skp T i (j + 1) then wrL T i j else wrL T i j ++ [markL (i : Int) ((j + 1 : Nat) : Int)]
def hlN (T i : Nat) : Nat → Int
  | 0 => 0
  | j + 1 => if skp T i (j + 1) then hlN T i j else ((j + 1 : Nat) : Int)
theorem gS_W (T j : Nat) (s : DS) (i : Nat) : ∀ m, (gS T j s m).W i = if i < m ∧ skp T i j = false then s.W i ++ [markL (i : Int) (j : Int)] else s.W i
  | 0 => by rw [if_neg (by omega)]; rfl
  | m + 1 => by
    have ih := gS_W T j s i m
    unfold gS
    by_cases hs : skp T m j = true
    · rw [if_pos hs, ih]
      by_cases e : i = m
      · subst e; rw [if_neg (by omega), if_neg (by rw [hs]; simp)]
      · by_cases h2 : i < m ∧ skp T i j = false
        · rw [if_pos h2, if_pos ⟨by omega, h2.2⟩]
        · rw [if_neg h2, if_neg (fun h => h2 ⟨by omega, h.2⟩)]
    · rw [if_neg hs]
      show (if i = m then (gS T j s m).W m ++ [markL (m : Int) (j : Int)] else (gS T j s m).W i) = _
      by_cases e : i = m
      · subst e
        rw [if_pos rfl, if_pos ⟨by omega, by simpa using hs⟩, ih, if_neg (by omega)]
      · rw [if_neg e, ih]
        by_cases h2 : i < m ∧ skp T i j = false
        · rw [if_pos h2, if_pos ⟨by omega, h2.2⟩]
        · rw [if_neg h2, if_neg (fun h => h2 ⟨by omega, h.2⟩)]
theorem gS_L (T j : Nat) (s : DS) : ∀ m, (gS T j s m).L = s.L
  | 0 => rfl
  | m + 1 => by
    have ih := gS_L T j s m
    unfold gS
    split
    · exact ih
    · exact ih
theorem gH_get (T j : Nat) (h : List Int) (i : Nat) : ∀ m, m ≤ h.length → (gH T j h m).getD i 0 = if i < m ∧ skp T i j = false then (j : Int) else h.getD i 0
  | 0, _ => by rw [if_neg (by omega)]; rfl
  | m + 1, hm => by
    have ih := gH_get T j h i m (by omega)
    have hl := gH_len T j h m
    unfold gH
    by_cases hs : skp T m j = true
    · rw [if_pos hs, ih]
      by_cases e : i = m
      · subst e; rw [if_neg (by omega), if_neg (by rw [hs]; simp)]
      · by_cases h2 : i < m ∧ skp T i j = false
        · rw [if_pos h2, if_pos ⟨by omega, h2.2⟩]
        · rw [if_neg h2, if_neg (fun h => h2 ⟨by omega, h.2⟩)]
    · rw [if_neg hs]
      by_cases e : i = m
      · subst e
        rw [if_pos ⟨by omega, by simpa using hs⟩, List.getD_eq_getElem?_getD, List.getElem?_set_self (by omega)]
        rfl
      · rw [List.getD_eq_getElem?_getD, List.getElem?_set_ne (by omega), ← List.getD_eq_getElem?_getD, ih]
        by_cases h2 : i < m ∧ skp T i j = false
        · rw [if_pos h2, if_pos ⟨by omega, h2.2⟩]
        · rw [if_neg h2, if_neg (fun h => h2 ⟨by omega, h.2⟩)]
theorem oS_W (n T i : Nat) (hi : i < n) : ∀ j, (oS n T j).W i = wrL T i j
  | 0 => rfl
  | j + 1 => by
    have ih := oS_W n T i hi j
    unfold oS wrL
    rw [gS_W, ih]
    by_cases hs : skp T i (j + 1) = true
    · rw [if_pos hs, if_neg (by rw [hs]; simp)]
    · rw [if_neg hs, if_pos ⟨hi, by simpa using hs⟩]
theorem oS_L (n T : Nat) : ∀ j, (oS n T j).L = List.replicate n zeros
  | 0 => rfl
  | j + 1 => by unfold oS; rw [gS_L]; exact oS_L n T j
theorem oH_get (n T i : Nat) (hi : i < n) : ∀ j, (oH n T j).getD i 0 = hlN T i j
  | 0 => by
    show (List.replicate n (0 : Int)).getD i 0 = 0
    rw [List.getD_eq_getElem?_getD, List.getElem?_replicate, if_pos hi]; rfl
  | j + 1 => by
    have ih := oH_get n T i hi j
    unfold oH hlN
    rw [gH_get T (j + 1) _ i n (by rw [oH_len]; exact Nat.le_refl _), ih]
    by_cases hs : skp T i (j + 1) = true
    · rw [if_pos hs, if_neg (by rw [hs]; simp)]
    · rw [if_neg hs, if_pos ⟨hi, by simpa using hs⟩]
/-- The marks of the first h rounds. -/
def mks (i h : Nat) : List (List Int) := (List.range h).map (fun k => markL (i : Int) ((k + 1 : Nat) : Int))
theorem mks_succ (i h : Nat) : mks i (h + 1) = mks i h ++ [markL (i : Int) ((h + 1 : Nat) : Int)] := by
  unfold mks
  rw [List.range_succ, List.map_append]
  rfl
theorem skp_five {T i j : Nat} (h : i % 5 = 4) : skp T i j = true := by unfold skp; rw [decide_eq_true h]; rfl
theorem skp_not {T i j : Nat} (h : ¬ i % 5 = 4) (hj : j ≠ T) : skp T i j = false := by unfold skp; rw [decide_eq_false h, decide_eq_false hj]; simp
theorem wr_early (T i : Nat) (h : ¬ i % 5 = 4) : ∀ j, j < T → wrL T i j = mks i j ∧ hlN T i j = (j : Int)
  | 0, _ => ⟨rfl, rfl⟩
  | j + 1, hj => by
    obtain ⟨h1, h2⟩ := wr_early T i h j (by omega)
    unfold wrL hlN
    rw [skp_not h (by omega)]
    exact ⟨by rw [if_neg (by simp), h1, mks_succ], by rw [if_neg (by simp)]⟩
theorem wr_five (T i : Nat) (h : i % 5 = 4) : ∀ j, wrL T i j = [] ∧ hlN T i j = 0
  | 0 => ⟨rfl, rfl⟩
  | j + 1 => by
    obtain ⟨h1, h2⟩ := wr_five T i h j
    unfold wrL hlN
    rw [skp_five h]
    exact ⟨h1, h2⟩
theorem wr_all (T i : Nat) (hT : 1 ≤ T) : ∃ h : Nat, h ≤ T ∧ wrL T i T = mks i h ∧ hlN T i T = (h : Int) := by
  by_cases h5 : i % 5 = 4
  · exact ⟨0, Nat.zero_le _, wr_five T i h5 T⟩
  · obtain ⟨t, rfl⟩ : ∃ t, T = t + 1 := ⟨T - 1, by omega⟩
    obtain ⟨h1, h2⟩ := wr_early (t + 1) i h5 t (by omega)
    by_cases hs : skp (t + 1) i (t + 1) = true
    · refine ⟨t, by omega, ?_⟩
      unfold wrL hlN
      rw [if_pos hs, if_pos hs]
      exact ⟨h1, h2⟩
    · refine ⟨t + 1, Nat.le_refl _, ?_⟩
      unfold wrL hlN
      rw [if_neg hs, if_neg hs, h1, mks_succ]
      exact ⟨rfl, rfl⟩
theorem mks_len (i h : Nat) : (mks i h).length = h := by unfold mks; rw [List.length_map, List.length_range]
theorem mks_get (i h k : Nat) (hk : k < h) : (mks i h).getD k [] = markL (i : Int) ((k + 1 : Nat) : Int) := by
  unfold mks
  rw [List.getD_eq_getElem?_getD, List.getElem?_map, List.getElem?_range hk, Option.map_some, Option.getD_some]
theorem great_cur (n T i : Nat) (hT : 1 ≤ T) (hi : i < n) : (oS n T T).cur i = if 0 < (oH n T T).getD i 0 then markL (i : Int) ((oH n T T).getD i 0) else zeros := by
  obtain ⟨h, hh, h1, h2⟩ := wr_all T i hT
  rw [oH_get n T i hi, h2]
  have hW : (oS n T T).W i = mks i h := by rw [oS_W n T i hi, h1]
  by_cases h0 : h = 0
  · subst h0
    rw [cur_nil hW, if_neg (by omega), oS_L, List.getD_eq_getElem?_getD, List.getElem?_replicate, if_pos hi, Option.getD_some]
  · have hne : (oS n T T).W i ≠ [] := by rw [hW]; intro e; have := mks_len i h; rw [e] at this; exact h0 this.symm
    rw [cur_last hne, hW, mks_len, mks_get i h _ (by omega), if_pos (by omega), show h - 1 + 1 = h by omega]
theorem great_hb (n T : Nat) (hT : 1 ≤ T) (i : Nat) : 0 ≤ (oH n T T).getD i 0 ∧ (oH n T T).getD i 0 ≤ (T : Int) := by
  by_cases hi : i < n
  · obtain ⟨h, hh, _, h2⟩ := wr_all T i hT
    rw [oH_get n T i hi, h2]
    omega
  · rw [List.getD_eq_getElem?_getD, List.getElem?_eq_none (by rw [oH_len]; omega)]
    exact ⟨Int.le_refl _, Int.natCast_nonneg _⟩
/-! ## behind the crash -/
theorem keys_rank (s : DS) (k : Nat) (hk : k < s.n) (hW : s.W k ≠ []) :
    s.keysN.getD ((List.range k).filter (fun i => decide (s.W i ≠ []))).length 0 = k ∧ ((List.range k).filter (fun i => decide (s.W i ≠ []))).length < s.keysN.length := by
  have e : s.keysN = (List.range k).filter (fun i => decide (s.W i ≠ [])) ++ k :: ((List.range' (k + 1) (s.n - (k + 1))).filter (fun i => decide (s.W i ≠ []))) := by
    unfold DS.keysN
    rw [show s.n = k + (1 + (s.n - (k + 1))) by omega, List.range_eq_range', List.range_eq_range', ← List.range'_append_1, List.filter_append, ← List.range'_append_1, Nat.zero_add, List.filter_append]
    rw [show List.range' k 1 = [k] from rfl, List.filter_cons, if_pos (by simpa using hW)]
    simp only [List.filter_nil, List.singleton_append]
    rw [show k + (1 + (s.n - (k + 1))) - (k + 1) = s.n - (k + 1) by omega]
  rw [e]
  constructor
  · rw [List.getD_eq_getElem?_getD, List.getElem?_append_right (Nat.le_refl _), Nat.sub_self]
    rfl
  · rw [List.length_append, List.length_cons]; omega
theorem crashL_at (s : DS) (fs : List Int) (hL : s.L.length = s.n) (q : Nat) (hq : q < s.keysN.length) : ∀ j, j ≤ s.keysN.length →
    (crashL s fs j).getD (s.keysN.getD q 0) [] = if q < j ∧ 1 ≤ fs.getD q 0 then (s.W (s.keysN.getD q 0)).getD ((min (fs.getD q 0) ((s.W (s.keysN.getD q 0)).length : Int)).toNat - 1) [] else s.L.getD (s.keysN.getD q 0) []
  | 0, _ => by rw [if_neg (by omega)]; rfl
  | j + 1, hj => by
    have ih := crashL_at s fs hL q hq j (by omega)
    have hk := (key_at s q hq).1
    unfold crashL
    by_cases hf : 1 ≤ fs.getD j 0
    · rw [if_pos hf]
      by_cases e : j = q
      · subst e
        rw [if_pos ⟨by omega, hf⟩, List.getD_eq_getElem?_getD, List.getElem?_set_self (by rw [crashL_len, hL]; exact hk)]
        rfl
      · have hne : s.keysN.getD j 0 ≠ s.keysN.getD q 0 := by
          intro e2
          have hr := s.keysN_rising
          rw [List.pairwise_iff_getElem] at hr
          rw [List.getD_eq_getElem?_getD, List.getD_eq_getElem?_getD, List.getElem?_eq_getElem (by omega), List.getElem?_eq_getElem hq] at e2
          simp only [Option.getD_some] at e2
          rcases Nat.lt_or_gt_of_ne e with h | h
          · have := hr j q (by omega) hq h; omega
          · have := hr q j hq (by omega) h; omega
        rw [List.getD_eq_getElem?_getD, List.getElem?_set_ne hne, ← List.getD_eq_getElem?_getD, ih]
        by_cases h2 : q < j ∧ 1 ≤ fs.getD q 0
        · rw [if_pos h2, if_pos ⟨by omega, h2.2⟩]
        · rw [if_neg h2, if_neg (fun h => h2 ⟨by omega, h.2⟩)]
    · rw [if_neg hf, ih]
      by_cases h2 : q < j ∧ 1 ≤ fs.getD q 0
      · rw [if_pos h2, if_pos ⟨by omega, h2.2⟩]
      · rw [if_neg h2, if_neg (fun h => h2 ⟨by
          have := h.1
          by_cases e : q = j
          · exact absurd (e ▸ h.2) hf
          · omega, h.2⟩)]
theorem crashL_off (s : DS) (fs : List Int) (i : Nat) (hW : s.W i = []) : ∀ j, j ≤ s.keysN.length → (crashL s fs j).getD i [] = s.L.getD i []
  | 0, _ => rfl
  | j + 1, hj => by
    have ih := crashL_off s fs i hW j (by omega)
    have hk := key_at s j (by omega)
    unfold crashL
    split
    · rw [List.getD_eq_getElem?_getD, List.getElem?_set_ne (fun e => hk.2.1 (by rw [e]; exact hW)), ← List.getD_eq_getElem?_getD, ih]
    · exact ih
theorem wf_step (n T a b : Nat) (H : List Int) (i : Nat) : (wf n T a b H (i + 1)).1.length = (wf n T a b H i).1.length ∧ ∀ k, k ≠ i → (wf n T a b H (i + 1)).1.getD k [] = (wf n T a b H i).1.getD k [] := by
  by_cases h : H.getD i 0 = 0
  · rw [wf_zero n T a b H i h]
    exact ⟨List.length_set, fun k hk => by rw [List.getD_eq_getElem?_getD, List.getElem?_set_ne (fun e => hk e.symm), ← List.getD_eq_getElem?_getD]⟩
  · rw [wf_more n T a b H i _ _ _ rfl h rfl rfl]
    exact ⟨List.length_set, fun k hk => by rw [List.getD_eq_getElem?_getD, List.getElem?_set_ne (fun e => hk e.symm), ← List.getD_eq_getElem?_getD]⟩
theorem wf_wlen (n T a b : Nat) (H : List Int) : ∀ i, (wf n T a b H i).1.length = n
  | 0 => List.length_replicate
  | i + 1 => (wf_step n T a b H i).1.trans (wf_wlen n T a b H i)
theorem wf_keep (n T a b : Nat) (H : List Int) (k : Nat) : ∀ d, (wf n T a b H (k + 1 + d)).1.getD k [] = (wf n T a b H (k + 1)).1.getD k []
  | 0 => rfl
  | d + 1 => ((wf_step n T a b H (k + 1 + d)).2 k (by omega)).trans (wf_keep n T a b H k d)
theorem wf_fates (n T a b : Nat) (H : List Int) : ∀ i, (wf n T a b H i).2 = (List.range ((List.range i).filter (fun k => decide (H.getD k 0 ≠ 0))).length).map (fun q => (fateN T a b q : Int) - 1)
  | 0 => rfl
  | i + 1 => by
    have ih := wf_fates n T a b H i
    rw [List.range_succ, List.filter_append, List.length_append]
    by_cases h : H.getD i 0 = 0
    · rw [wf_zero n T a b H i h]
      rw [show List.filter (fun k => decide (H.getD k 0 ≠ 0)) [i] = [] by rw [List.filter_cons, if_neg (by simpa using h)]; rfl]
      exact ih
    · have hl : (wf n T a b H i).2.length = ((List.range i).filter (fun k => decide (H.getD k 0 ≠ 0))).length := by rw [ih, List.length_map, List.length_range]
      rw [wf_more n T a b H i _ _ _ rfl h rfl rfl]
      rw [show List.filter (fun k => decide (H.getD k 0 ≠ 0)) [i] = [i] by rw [List.filter_cons, if_pos (by simpa using h)]; rfl]
      rw [List.length_singleton, List.range_succ, List.map_append, ← ih, hl]
      rfl
theorem great_crash (n T a b : Nat) (hT : 1 ≤ T) (k : Nat) (hk : k < n) :
    ((oS n T T).crash (wf n T a b (oH n T T) n).2).L.getD k [] = (wf n T a b (oH n T T) n).1.getD k [] := by
  obtain ⟨h, hh, h1, h2⟩ := wr_all T k hT
  have hW : (oS n T T).W k = mks k h := by rw [oS_W n T k hk, h1]
  have hH : (oH n T T).getD k 0 = (h : Int) := by rw [oH_get n T k hk, h2]
  have hn := oS_n n T T
  have hL : (oS n T T).L.length = (oS n T T).n := by rw [oS_L, List.length_replicate, hn]
  have hLk : (oS n T T).L.getD k [] = zeros := by rw [oS_L, List.getD_eq_getElem?_getD, List.getElem?_replicate, if_pos hk, Option.getD_some]
  have hfil : ∀ i, i ≤ n → (List.range i).filter (fun k => decide ((oH n T T).getD k 0 ≠ 0)) = (List.range i).filter (fun k => decide ((oS n T T).W k ≠ [])) := by
    intro i hi
    apply List.filter_congr
    intro x hx
    have hx : x < n := by have := List.mem_range.1 hx; omega
    obtain ⟨hx', _, h3, h4⟩ := wr_all T x hT
    rw [oS_W n T x hx, oH_get n T x hx, h3, h4]
    by_cases e : hx' = 0
    · subst e; rfl
    · have hne : mks x hx' ≠ [] := by intro e2; have := mks_len x hx'; rw [e2] at this; exact e this.symm
      rw [decide_eq_true (by omega), decide_eq_true hne]
  have hwk : (wf n T a b (oH n T T) n).1.getD k [] = (wf n T a b (oH n T T) (k + 1)).1.getD k [] := by
    have h_ := wf_keep n T a b (oH n T T) k (n - (k + 1))
    rwa [show k + 1 + (n - (k + 1)) = n by omega] at h_
  have hfl : (wf n T a b (oH n T T) n).2.length = (oS n T T).keysN.length := by
    rw [wf_fates, List.length_map, List.length_range, hfil n (Nat.le_refl _)]
    unfold DS.keysN
    rw [hn]
  show (crashL (oS n T T) (wf n T a b (oH n T T) n).2 (min (oS n T T).keysN.length (wf n T a b (oH n T T) n).2.length)).getD k [] = _
  rw [hfl, Nat.min_self, hwk]
  by_cases h0 : h = 0
  · subst h0
    rw [crashL_off _ _ k (by rw [hW]; rfl) _ (Nat.le_refl _), hLk, wf_zero n T a b _ k (by rw [hH]; rfl), List.getD_eq_getElem?_getD, List.getElem?_set_self (by rw [wf_wlen]; exact hk), Option.getD_some]
  · have hne : (oS n T T).W k ≠ [] := by rw [hW]; intro e; have := mks_len k h; rw [e] at this; exact h0 this.symm
    obtain ⟨e1, e2⟩ := keys_rank (oS n T T) k (by rw [hn]; exact hk) hne
    obtain ⟨q, hq⟩ : ∃ q, q = ((List.range k).filter (fun i => decide ((oS n T T).W i ≠ []))).length := ⟨_, rfl⟩
    rw [← hq] at e1 e2
    have hc := crashL_at (oS n T T) (wf n T a b (oH n T T) n).2 hL q e2 _ (Nat.le_refl _)
    have hfq : (wf n T a b (oH n T T) n).2.getD q 0 = (fateN T a b q : Int) - 1 := by
      rw [List.getD_eq_getElem?_getD, wf_fates, List.getElem?_map, List.getElem?_range (by rw [hfil n (Nat.le_refl _)]; unfold DS.keysN at e2; rw [hn] at e2; exact e2)]
      rfl
    have hql : (wf n T a b (oH n T T) k).2.length = q := by rw [wf_fates, List.length_map, List.length_range, hfil k (by omega), hq]
    rw [e1, hfq, hW, mks_len, hLk] at hc
    have hr : ∀ X, ((wf n T a b (oH n T T) k).1.set k X).getD k [] = X := fun X => by rw [List.getD_eq_getElem?_getD, List.getElem?_set_self (by rw [wf_wlen]; exact hk), Option.getD_some]
    rw [hc, wf_more n T a b _ k _ q _ hH (by omega) hql rfl]
    show _ = ((wf n T a b (oH n T T) k).1.set k _).getD k []
    rw [hr]
    by_cases hf : 1 < fateN T a b q
    · rw [if_pos hf, if_pos ⟨e2, by omega⟩, mks_get _ _ _ (by omega)]
      congr 1
      omega
    · rw [if_neg hf, if_neg (fun h => hf (by omega))]
def greatF (_k : Nat) (_a _b _c _d : Int) : Option Bool := some true
theorem great_row (k : Nat) (a0 a1 a2 a3 : Int) (r : Bool) (w : World) (h : greatF k a0 a1 a2 a3 = some r) :
    Calls Try.prog 8 #[.int .i64 a0, .int .i64 a1, .int .i64 a2, .int .i64 a3] w fun e w' => e = .returned (.bool r) ∧ Below w.heap.size w w' := by
  cases h
  obtain ⟨r0, h0, h0a, h0b⟩ := mod_ok a0 1999 (by omega) (by omega)
  obtain ⟨n, hn⟩ : ∃ n : Nat, (n : Int) = r0 + 2 := ⟨(r0 + 2).toNat, by omega⟩
  obtain rfl : r0 = (n : Int) - 2 := by omega
  have hn2 : 2 ≤ n := by omega
  have hq0 : 1 ≤ 30000 / n := by rw [Nat.le_div_iff_mul_le (by omega)]; omega
  have hqc : (30000 : Int) / (n : Int) = ((30000 / n : Nat) : Int) := (Int.natCast_ediv 30000 n).symm
  obtain ⟨M, hM⟩ : ∃ M : Nat, M = min 2000 (30000 / n) := ⟨_, rfl⟩
  obtain ⟨r1, h1, h1a, h1b⟩ := mod_ok a1 (M : Int) (by omega) (by omega)
  obtain ⟨T, hT⟩ : ∃ T : Nat, (T : Int) = r1 + 1 := ⟨(r1 + 1).toNat, by omega⟩
  obtain rfl : r1 = (T : Int) - 1 := by omega
  have hTm : T ≤ M := by omega
  have hTn : T * n ≤ 30000 := Nat.le_trans (Nat.mul_le_mul_right n (show T ≤ 30000 / n by omega)) (Nat.div_mul_le_self 30000 n)
  obtain ⟨r2, h2, h2a, h2b⟩ := mod_ok a2 ((T : Int) + 2) (by omega) (by omega)
  obtain ⟨a, ha⟩ : ∃ a : Nat, (a : Int) = r2 := ⟨r2.toNat, by omega⟩
  obtain ⟨r3, h3, h3a, h3b⟩ := mod_ok a3 ((T : Int) + 3) (by omega) (by omega)
  obtain ⟨b, hb⟩ : ∃ b : Nat, (b : Int) = r3 := ⟨r3.toNat, by omega⟩
  subst ha
  subst hb
  exact great_calls a0 a1 a2 a3 w n T a b M hn2 (by omega) (by omega) (by omega) hTn (by omega) (by omega) h0 _ rfl (by rw [hqc]; omega) h1 h2 h3 (great_hb n T (by omega)) (fun i hi => great_cur n T i (by omega) hi) (fun i hi => great_crash n T a b (by omega) i hi)
theorem great_pure : ∀ (a0 a1 a2 a3 : Int), (Lit.int .i64 a0).wf = true → (Lit.int .i64 a1).wf = true → (Lit.int .i64 a2).wf = true → (Lit.int .i64 a3).wf = true → ∃ k, greatF k a0 a1 a2 a3 = some true := fun _ _ _ _ _ _ _ _ => ⟨0, rfl⟩
end Go.Proofs.Ytddnhcnkjcdfgaa.M
