-- DiskTurns: the plain law
import Derived.Test.YtddnhcnkjcdfgaaFb
import Derived.Test.YtddnhcnkjcdfgaaKo
import Derived.DataShut
namespace Go.Proofs.Ytddnhcnkjcdfgaa.M
open Go.RowKit Go.Maps Go.Proofs.YtddnhcnkjcdfgaaW.PrintWords Go.Proofs.YtddnhcnkjcdfgaaW.PrintLast Go.Proofs.YtddnhcnkjcdfgaaW.PrintMore
open Go.Proofs.Ytddnhcnkjcdfgaa.P
set_option linter.unusedVariables false
set_option linter.unusedSimpArgs false
/-- Numbers that are bytes. -/
def Byt (l : List Int) : Prop := ∀ b ∈ l, 0 ≤ b ∧ b < 256
theorem Byt.get {l : List Int} (h : Byt l) (q : Nat) : 0 ≤ l.getD q 0 ∧ l.getD q 0 < 256 := by
  rw [List.getD_eq_getElem?_getD]
  by_cases e : q < l.length
  · rw [List.getElem?_eq_getElem e]; exact h _ (List.getElem_mem e)
  · rw [List.getElem?_eq_none (by omega)]; decide
theorem Byt.set {l : List Int} (h : Byt l) (q : Nat) (v : Int) (hv : 0 ≤ v ∧ v < 256) : Byt (l.set q v) := by
  intro b hb
  rcases List.mem_or_eq_of_mem_set hb with e | e
  · exact h b e
  · rw [e]; exact hv
theorem byt_zeros : Byt zeros := fun b hb => by rw [List.eq_of_mem_replicate hb]; decide
theorem sector_l0b (x0 : List Int) (h0 : Byt x0) : ∀ (m : Nat) (x3 : List Int) (j : Nat), x3.length = 512 → Byt x3 → j + m = 512 → ∃ r, kilnlaw3_sector.l0 (m + 1) x0 x3 (j : Int) = some r ∧ r.length = 512 ∧ Byt r
  | 0, x3, j, hl, hb, hj => by
    unfold kilnlaw3_sector.l0
    rw [if_neg (by omega)]
    exact ⟨_, rfl, hl, hb⟩
  | m + 1, x3, j, hl, hb, hj => by
    unfold kilnlaw3_sector.l0
    rw [if_pos (by omega)]
    by_cases h1 : (x0.length : Int) > 0
    · rw [if_pos h1, if_neg (by omega), if_pos (Int.tmod_nonneg _ (by omega)), if_pos (Int.tmod_lt_of_pos _ h1), if_pos (by omega), w64 _ (by omega) (by omega)]
      exact sector_l0b x0 h0 m _ (j + 1) (by rw [List.length_set]; exact hl) (hb.set _ _ (h0.get _)) (by omega)
    · rw [if_neg h1]
      exact ⟨_, rfl, hl, hb⟩
theorem sector_okb (b : List Int) (hb : Byt b) (d : Nat) : ∃ r, kilnlaw3_sector.f (513 + d) b = some r ∧ r.length = 512 ∧ Byt r := by
  obtain ⟨r, h, hl, hr⟩ := sector_l0b b hb 512 (List.replicate 512 0) 0 (by rw [List.length_replicate]) byt_zeros (by omega)
  refine ⟨r, up_ (g := fun k => kilnlaw3_sector.f k b) (kilnlaw3_sector.mono b) 513 d r ?_, hl, hr⟩
  show kilnlaw3_sector.f 513 b = some r
  unfold kilnlaw3_sector.f
  rw [if_pos (by decide)]
  exact h
def BytS (l : List S30) : Prop := ∀ x ∈ l, Byt x.f1
theorem BytS.get {l : List S30} (h : BytS l) (j : Nat) (hj : j < l.length) : Byt (rd_T30 l (j : Int)).f1 := by
  unfold rd_T30
  rw [Int.toNat_natCast, List.getD_eq_getElem?_getD, List.getElem?_eq_getElem hj]
  exact h _ (List.getElem_mem hj)
theorem made_l0b (l1 : List S30) (hB : BytS l1) (n : Nat) (hn : 2 ≤ n) (hm : n ≤ 64) : ∀ (m : Nat) (x8 : List S30) (j : Nat), x8.length = j → j + m = 100 → Good n x8 → BytS x8 → ∃ k out, kilnlaw3_made.l0 k l1 (n : Int) x8 (j : Int) = some (0, (n : Int), out) ∧ out.length ≤ 100 ∧ Good n out ∧ BytS out
  | 0, x8, j, hl, hj, hg, hb => by
    refine ⟨2, x8, ?_, by omega, hg, hb⟩
    unfold kilnlaw3_made.l0
    rw [show decide ((j : Int) < 100) = false from decide_eq_false (by omega), made_end l1 n hn]
    split <;> rfl
  | m + 1, x8, j, hl, hj, hg, hb => by
    by_cases hc : (j : Int) < (l1.length : Int)
    · obtain ⟨r, hr, hr0, hr1⟩ := mod_ok (rd_T30 l1 (j : Int)).f0 (n : Int) (by omega) (by omega)
      obtain ⟨b, hb0, hbl, hbb⟩ := sector_okb (rd_T30 l1 (j : Int)).f1 (hB.get j (by omega)) 0
      obtain ⟨k, out, hk, ho, hgo, hbo⟩ := made_l0b l1 hB n hn hm m (x8 ++ [⟨r, b⟩]) (j + 1) (by rw [List.length_append]; simp [hl]) (by omega) (by
        intro x hx
        rcases List.mem_append.1 hx with h | h
        · exact hg x h
        · obtain rfl := List.mem_singleton.1 h
          exact ⟨⟨r.toNat, by omega, by show r = _; omega⟩, hbl⟩) (by
        intro x hx
        rcases List.mem_append.1 hx with h | h
        · exact hb x h
        · obtain rfl := List.mem_singleton.1 h
          exact hbb)
      refine ⟨k + 513 + 2, out, ?_, ho, hgo, hbo⟩
      unfold kilnlaw3_made.l0
      rw [if_pos hc, show decide ((j : Int) < 100) = true from decide_eq_true (by omega)]
      unfold kilnlaw3_made.j1
      rw [if_pos rfl, if_pos (by omega), if_pos hc, hr, Option.bind_some]
      have hb1 : kilnlaw3_sector.f (k + 513) (rd_T30 l1 (j : Int)).f1 = some b := by
        have := up_ (g := fun k => kilnlaw3_sector.f k (rd_T30 l1 (j : Int)).f1) (kilnlaw3_sector.mono _) 513 k b hb0
        rw [show k + 513 = 513 + k by omega]
        exact this
      rw [hb1, Option.bind_some, if_pos (by omega), w64 _ (by omega) (by omega)]
      have h_ := up_ (g := fun k => kilnlaw3_made.l0 k l1 (n : Int) (x8 ++ [⟨r, b⟩]) ((j + 1 : Nat) : Int)) (fun k => (kilnlaw3_made.mono_l k).1 _ _ _ _) k 513
      have h2_ := h_ _ hk
      rw [show (j : Int) + 1 = ((j + 1 : Nat) : Int) from by omega]
      with_reducible exact h2_
    · refine ⟨2, x8, ?_, by omega, hg, hb⟩
      unfold kilnlaw3_made.l0
      rw [if_neg hc, made_end l1 n hn]
theorem made_ok3 (a0 : Int) : ∃ n : Nat, 2 ≤ n ∧ n ≤ 64 ∧ ∀ l1 : List S30, BytS l1 → ∃ k out, kilnlaw3_made.f k a0 l1 = some (0, (n : Int), out) ∧ out.length ≤ 100 ∧ Good n out ∧ BytS out ∧ (l1 = [] → out = []) := by
  obtain ⟨r, hr, hr0, hr1⟩ := mod_ok a0 63 (by omega) (by omega)
  refine ⟨r.toNat + 2, by omega, by omega, fun l1 hB => ?_⟩
  by_cases e : l1 = []
  · subst e
    refine ⟨2, [], ?_, by simp, fun x hx => (by cases hx), fun x hx => (by cases hx), fun _ => rfl⟩
    unfold kilnlaw3_made.f
    rw [hr, Option.bind_some, w64 _ (by omega) (by omega), show 2 + r = ((r.toNat + 2 : Nat) : Int) by omega]
    unfold kilnlaw3_made.l0
    rw [if_neg (by simp), made_end [] _ (by omega)]
  · obtain ⟨k, out, hk, ho, hg, hb⟩ := made_l0b l1 hB (r.toNat + 2) (by omega) (by omega) 100 [] 0 rfl rfl (fun x hx => by cases hx) (fun x hx => by cases hx)
    refine ⟨k, out, ?_, ho, hg, hb, fun h => absurd h e⟩
    unfold kilnlaw3_made.f
    rw [hr, Option.bind_some, w64 _ (by omega) (by omega), show 2 + r = ((r.toNat + 2 : Nat) : Int) by omega]
    exact hk
/-! ## what a disk holds -/
def Sec (l : List Int) : Prop := l.length = 512 ∧ Byt l
structure DOk (s : DS) : Prop where
  len : s.L.length = s.n
  L : ∀ x ∈ s.L, Sec x
  W : ∀ i, i < s.n → ∀ x ∈ s.W i, Sec x
theorem DOk.getL {s : DS} (h : DOk s) (i : Nat) (hi : i < s.n) : Sec (s.L.getD i []) := by
  rw [List.getD_eq_getElem?_getD, List.getElem?_eq_getElem (by rw [h.len]; exact hi)]
  exact h.L _ (List.getElem_mem _)
theorem DOk.cur {s : DS} (h : DOk s) (i : Nat) (hi : i < s.n) : Sec (s.cur i) := by
  by_cases e : s.W i = []
  · rw [cur_nil e]; exact h.getL i hi
  · rw [cur_last e, List.getD_eq_getElem?_getD, List.getElem?_eq_getElem (by have := List.length_pos_iff.2 e; omega)]
    exact h.W i hi _ (List.getElem_mem _)
theorem DOk.fresh (n : Nat) : DOk (DS.fresh n (List.replicate n zeros)) :=
  ⟨List.length_replicate, fun x hx => by rw [List.eq_of_mem_replicate hx]; exact ⟨zeros_len, byt_zeros⟩, fun i _ x hx => by cases hx⟩
theorem DOk.put {s : DS} (h : DOk s) (i : Nat) (b : List Int) (hb : Sec b) : DOk (s.put i b) :=
  ⟨h.len, h.L, fun j hj x hx => by
    have hx : x ∈ (if j = i then s.W i ++ [b] else s.W j) := hx
    split at hx
    · rename_i e
      rcases List.mem_append.1 hx with h1 | h1
      · rw [← e] at h1; exact h.W j hj x h1
      · rw [List.mem_singleton.1 h1]; exact hb
    · exact h.W j hj x hx⟩
theorem DOk.puts {s : DS} (h : DOk s) (o : List S30) (n : Nat) (hg : Good n o) (hb : BytS o) : ∀ j, j ≤ o.length → DOk (puts s o j)
  | 0, _ => h
  | j + 1, hj => (DOk.puts h o n hg hb j (by omega)).put _ _ ⟨(hg.at_ j (by omega)).2, hb.get j (by omega)⟩
theorem DOk.flush {s : DS} (h : DOk s) : DOk s.flush :=
  ⟨by show ((List.range s.n).map s.cur).length = s.n; rw [List.length_map, List.length_range], fun x hx => by
    obtain ⟨i, hi, rfl⟩ := List.mem_map.1 (show x ∈ (List.range s.n).map s.cur from hx)
    exact h.cur i (List.mem_range.1 hi), fun i _ x hx => by cases hx⟩
theorem DOk.crash {s : DS} (h : DOk s) (fs : List Int) : DOk (s.crash fs) :=
  ⟨by show (crashL s fs _).length = s.n; rw [crashL_len]; exact h.len, fun x hx => by
    obtain ⟨i, hi⟩ := List.getElem?_of_mem (show x ∈ crashL s fs (min s.keysN.length fs.length) from hx)
    have hil : i < s.n := by have := (List.getElem?_eq_some_iff.1 hi).1; rw [crashL_len, h.len] at this; exact this
    have hx : x = (crashL s fs (min s.keysN.length fs.length)).getD i [] := by rw [List.getD_eq_getElem?_getD, hi]; rfl
    rcases crashL_is s fs i (min s.keysN.length fs.length) (Nat.min_le_left _ _) with e | e
    · rw [hx, e]; exact h.getL i hil
    · rw [hx]; exact h.W i hil _ e, fun i _ x hx => by cases hx⟩
theorem DOk.tZ (n : Nat) (o1 o2 : List S30) (hg1 : Good n o1) (hb1 : BytS o1) (hg2 : Good n o2) (hb2 : BytS o2) : DOk (tZ n o1 o2) :=
  (((DOk.fresh n).puts o1 n hg1 hb1 _ (Nat.le_refl _)).flush).puts o2 n hg2 hb2 _ (Nat.le_refl _)
/-! ## a bit turned -/
theorem mskB_lt (r : Nat) (h : r < 8) : 0 ≤ mskB r ∧ mskB r < 256 := by
  rcases r with _ | _ | _ | _ | _ | _ | _ | _ | r <;> first | decide | omega
theorem xor_back (v m : Int) (hv : 0 ≤ v ∧ v < 256) (hm : 0 ≤ m ∧ m < 256) : bits .xor .u8 v (bits .xor .u8 v m) = m ∧ bits .xor .u8 (bits .xor .u8 v m) v = m ∧ bits .xor .u8 (bits .xor .u8 v m) m = v ∧ bits .xor .u8 v v = 0 ∧ 0 ≤ bits .xor .u8 v m ∧ bits .xor .u8 v m < 256 := by
  obtain ⟨a, rfl⟩ := Int.eq_ofNat_of_zero_le hv.1
  obtain ⟨b, rfl⟩ := Int.eq_ofNat_of_zero_le hm.1
  have hx : a ^^^ b < 2 ^ 8 := Nat.xor_lt_two_pow (by omega) (by omega)
  rw [u8_xor_nat a b (by omega) (by omega), u8_xor_nat a _ (by omega) (by omega), u8_xor_nat _ a (by omega) (by omega), u8_xor_nat _ b (by omega) (by omega), u8_xor_nat a a (by omega) (by omega)]
  refine ⟨?_, ?_, ?_, ?_, by omega, by omega⟩
  · rw [← Nat.xor_assoc, Nat.xor_self, Nat.zero_xor]
  · rw [Nat.xor_comm a b, Nat.xor_assoc, Nat.xor_self, Nat.xor_zero]
  · rw [Nat.xor_assoc, Nat.xor_self, Nat.xor_zero]
  · rw [Nat.xor_self]; rfl
theorem flipL_get (q : Nat) (m : Int) (l : List Int) (y : Nat) : (flipL q m l).getD y 0 = if y = q ∧ q < l.length then bits .xor .u8 (l.getD q 0) m else l.getD y 0 := by
  unfold flipL
  rw [List.getD_eq_getElem?_getD, List.getElem?_set]
  by_cases e : q = y
  · subst e
    rw [if_pos rfl]
    by_cases h : q < l.length
    · rw [if_pos h, if_pos ⟨rfl, h⟩, Option.getD_some]
    · rw [if_neg h, if_neg (fun h2 => h h2.2), List.getD_eq_getElem?_getD, List.getElem?_eq_none (by omega)]
  · rw [if_neg e, if_neg (fun h => e h.1.symm), List.getD_eq_getElem?_getD]
theorem flip_flip (q : Nat) (m : Int) (l : List Int) (hb : Byt l) (hm : 0 ≤ m ∧ m < 256) : flipL q m (flipL q m l) = l := by
  have h := (xor_back (l.getD q 0) m (hb.get q) hm).2.2.1
  by_cases e : q < l.length
  · have h1 := flipL_get q m l q
    rw [if_pos ⟨rfl, e⟩] at h1
    have h2 : flipL q m (flipL q m l) = (flipL q m l).set q (bits .xor .u8 ((flipL q m l).getD q 0) m) := rfl
    rw [h2, h1, h]
    unfold flipL
    rw [List.set_set, List.getD_eq_getElem?_getD, List.getElem?_eq_getElem e]
    exact List.set_getElem_self e
  · unfold flipL
    rw [List.set_eq_of_length_le (by rw [List.length_set]; omega), List.set_eq_of_length_le (by omega)]
theorem shl_msk (r : Nat) (h : r < 8) : shl .u8 1 (r : Int) = mskB r := by
  rcases r with _ | _ | _ | _ | _ | _ | _ | _ | r <;> first | rfl | decide | omega
theorem other_l0 (a b : List Int) (bit : Nat) (hbit : bit < 4096) (ha : a.length = 512) (hb : b.length = 512) (hx : ∀ y, y < 512 → bits .xor .u8 (a.getD y 0) (b.getD y 0) = if y = bit / 8 then mskB (bit % 8) else 0) : ∀ m y : Nat, y + m = 512 → R.kilnlaw3_other.l0 (m + 1) a b (bit : Int) (y : Int) = some true
  | 0, y, h => by
    unfold R.kilnlaw3_other.l0
    rw [if_neg (by omega)]
  | m + 1, y, h => by
    have ih := other_l0 a b bit hbit ha hb hx m (y + 1) (by omega)
    have hd : Int.tdiv (bit : Int) 8 = ((bit / 8 : Nat) : Int) := by rw [Int.tdiv_eq_ediv_of_nonneg (by omega)]; omega
    have hr : Int.tmod (bit : Int) 8 = ((bit % 8 : Nat) : Int) := by rw [Int.tmod_eq_emod_of_nonneg (by omega)]; omega
    have hxy := hx y (by omega)
    unfold R.kilnlaw3_other.l0
    rw [if_pos (by omega), if_pos (by omega), if_pos (by omega), if_pos (by omega), hd, hr, w64 _ (by omega) (by omega), w64 _ (by omega) (by omega)]
    show (if (y : Int) = _ then (if (0 : Int) ≤ _ then (if bits .xor .u8 (a.getD ((y : Int)).toNat 0) (b.getD ((y : Int)).toNat 0) = _ then _ else _) else _) else (if bits .xor .u8 (a.getD ((y : Int)).toNat 0) (b.getD ((y : Int)).toNat 0) = 0 then _ else _)) = _
    rw [Int.toNat_natCast, hxy]
    by_cases e : y = bit / 8
    · rw [if_pos (by omega), if_pos (by omega), if_pos e, shl_msk _ (by omega), if_pos rfl]
      exact ih
    · rw [if_neg (by omega), if_neg e, if_pos rfl]
      exact ih
theorem other_ok (a b : List Int) (bit : Nat) (hbit : bit < 4096) (ha : a.length = 512) (hb : b.length = 512) (hx : ∀ y, y < 512 → bits .xor .u8 (a.getD y 0) (b.getD y 0) = if y = bit / 8 then mskB (bit % 8) else 0) : ∃ k, R.kilnlaw3_other.f k a b (bit : Int) = some true := by
  refine ⟨514, ?_⟩
  unfold R.kilnlaw3_other.f
  rw [if_pos (by omega), show ((b.length : Int) != 512) = false from bne_eq_false_iff_eq.mpr (by omega)]
  have e : ∀ k, R.kilnlaw3_other.j0 (k + 1) a b (bit : Int) false = R.kilnlaw3_other.l0 k a b (bit : Int) 0 := fun k => by
    simp [R.kilnlaw3_other.j0]
  rw [e 513]
  exact other_l0 a b bit hbit ha hb hx 512 0 (by omega)
theorem other_flip (l : List Int) (h : Sec l) (bit : Nat) (hbit : bit < 4096) : (∃ k, R.kilnlaw3_other.f k l (flipL (bit / 8) (mskB (bit % 8)) l) (bit : Int) = some true) ∧ ∃ k, R.kilnlaw3_other.f k (flipL (bit / 8) (mskB (bit % 8)) l) l (bit : Int) = some true := by
  have hm := mskB_lt (bit % 8) (by omega)
  constructor
  · refine other_ok _ _ bit hbit h.1 (by rw [flipL_len]; exact h.1) (fun y hy => ?_)
    rw [flipL_get]
    by_cases e : y = bit / 8
    · rw [if_pos ⟨e, by rw [h.1]; omega⟩, if_pos e, e]
      exact (xor_back _ _ (h.2.get _) hm).1
    · rw [if_neg (fun h => e h.1), if_neg e]
      exact (xor_back _ _ (h.2.get _) hm).2.2.2.1
  · refine other_ok _ _ bit hbit (by rw [flipL_len]; exact h.1) h.1 (fun y hy => ?_)
    rw [flipL_get]
    by_cases e : y = bit / 8
    · rw [if_pos ⟨e, by rw [h.1]; omega⟩, if_pos e, e]
      exact (xor_back _ _ (h.2.get _) hm).2.1
    · rw [if_neg (fun h => e h.1), if_neg e]
      exact (xor_back _ _ (h.2.get _) hm).2.2.2.1
theorem turn_L (s : DS) (i bit : Nat) (hi : i < s.L.length) : (s.turn i bit).L.getD i [] = flipL (bit / 8) (mskB (bit % 8)) (s.L.getD i []) := by
  show (s.L.set i _).getD i [] = _
  rw [List.getD_eq_getElem?_getD, List.getElem?_set_self hi, Option.getD_some]
theorem turn_W (s : DS) (i bit : Nat) : (s.turn i bit).W i = (s.W i).map (flipL (bit / 8) (mskB (bit % 8))) := by
  show (if i = i then _ else _) = _
  rw [if_pos rfl]
theorem turn_cur (s : DS) (i bit : Nat) (hi : i < s.L.length) : (s.turn i bit).cur i = flipL (bit / 8) (mskB (bit % 8)) (s.cur i) := by
  by_cases e : s.W i = []
  · rw [cur_nil e, cur_nil (by rw [turn_W, e]; rfl), turn_L s i bit hi]
  · have e2 : (s.turn i bit).W i ≠ [] := by rw [turn_W]; intro h; exact e (List.map_eq_nil_iff.1 h)
    have hp := List.length_pos_iff.2 e
    rw [cur_last e, cur_last e2, turn_W, List.length_map, List.getD_eq_getElem?_getD, List.getElem?_map, List.getD_eq_getElem?_getD, List.getElem?_eq_getElem (by omega)]
    rfl
theorem turn_keys (s : DS) (i bit : Nat) : (s.turn i bit).keysN = s.keysN := by
  unfold DS.keysN
  show List.filter _ (List.range s.n) = _
  apply List.filter_congr
  intro x _
  by_cases e : x = i
  · rw [e, turn_W]
    by_cases e2 : s.W i = []
    · rw [e2]; rfl
    · have e3 : (s.W i).map (flipL (bit / 8) (mskB (bit % 8))) ≠ [] := fun h => e2 (List.map_eq_nil_iff.1 h)
      rw [decide_eq_true e3, decide_eq_true (show s.W i ≠ [] from e2)]
  · show decide ((if x = i then _ else s.W x) ≠ []) = _
    rw [if_neg e]
theorem getD_set_at (l : List (List Int)) (i : Nat) (v : List Int) (h : i < l.length) : (l.set i v).getD i [] = v := by rw [List.getD_eq_getElem?_getD, List.getElem?_set_self h, Option.getD_some]
theorem getD_map_at (l : List (List Int)) (f : List Int → List Int) (i : Nat) (h : i < l.length) : (l.map f).getD i [] = f (l.getD i []) := by rw [List.getD_eq_getElem?_getD, List.getElem?_map, List.getD_eq_getElem?_getD, List.getElem?_eq_getElem h]; rfl
theorem turn_crashL (s : DS) (fs : List Int) (i bit : Nat) (hi : i < s.L.length) : ∀ j, j ≤ s.keysN.length → (crashL (s.turn i bit) fs j).getD i [] = flipL (bit / 8) (mskB (bit % 8)) ((crashL s fs j).getD i [])
  | 0, _ => turn_L s i bit hi
  | j + 1, hj => by
    have ih := turn_crashL s fs i bit hi j (by omega)
    obtain ⟨hk1, hk2, _⟩ := key_at s j (by omega)
    have hp := List.length_pos_iff.2 hk2
    unfold crashL
    rw [turn_keys]
    by_cases hf : 1 ≤ fs.getD j 0
    · rw [if_pos hf, if_pos hf]
      by_cases e : s.keysN.getD j 0 = i
      · rw [e] at hp ⊢
        rw [turn_W, List.length_map, getD_set_at _ _ _ (by rw [crashL_len]; show i < (s.L.set i _).length; rw [List.length_set]; exact hi), getD_set_at _ _ _ (by rw [crashL_len]; exact hi), getD_map_at _ _ _ (by omega)]
      · rw [List.getD_eq_getElem?_getD, List.getElem?_set_ne e, ← List.getD_eq_getElem?_getD, ih, List.getD_eq_getElem?_getD (l := (crashL s fs j).set _ _), List.getElem?_set_ne e, ← List.getD_eq_getElem?_getD]
    · rw [if_neg hf, if_neg hf]
      exact ih
theorem turn_crash (s : DS) (fs : List Int) (i bit : Nat) (hi : i < s.L.length) : ((s.turn i bit).crash fs).cur i = flipL (bit / 8) (mskB (bit % 8)) ((s.crash fs).cur i) := by
  have h1 : ((s.turn i bit).crash fs).cur i = (crashL (s.turn i bit) fs (min (s.turn i bit).keysN.length fs.length)).getD i [] := rfl
  have h2 : (s.crash fs).cur i = (crashL s fs (min s.keysN.length fs.length)).getD i [] := rfl
  rw [h1, h2, turn_keys]
  exact turn_crashL s fs i bit hi _ (Nat.min_le_left _ _)
theorem same_l0 (l : List (List Int)) (hl : l.length ≤ 1000000) : ∀ m j, j + m = l.length → R.kilnref3_SameImage.l0 (m + 1) l l (j : Int) = some true
  | 0, j, h => by
    unfold R.kilnref3_SameImage.l0
    rw [if_neg (by omega)]
  | m + 1, j, h => by
    unfold R.kilnref3_SameImage.l0
    rw [if_pos (by omega), if_pos (by omega), if_pos (by omega), if_pos rfl, w64 _ (by omega) (by omega)]
    exact same_l0 l hl m (j + 1) (by omega)
theorem same_ok (l : List (List Int)) (hl : l.length ≤ 1000000) : R.kilnref3_SameImage.f (l.length + 1) l l = some true := by
  unfold R.kilnref3_SameImage.f
  rw [if_pos rfl]
  exact same_l0 l hl l.length 0 (by omega)
theorem turns_all (n : Nat) (o1 o2 : List S30) (hg1 : Good n o1) (hb1 : BytS o1) (hg2 : Good n o2) (hb2 : BytS o2) (fs : List Int) (i bit : Nat) (hi : i < n) (hnm : n ≤ 64) (hbit : bit < 4096) :
    (∃ k, R.kilnlaw3_other.f k ((tZ n o1 o2).cur i) (((tZ n o1 o2).reads.turn i bit).cur i) (bit : Int) = some true) ∧
    (∃ k, R.kilnlaw3_other.f k ((tZ n o1 o2).L.getD i []) (((tZ n o1 o2).reads.turn i bit).L.getD i []) (bit : Int) = some true) ∧
    (∀ j, j < n → j ≠ i → ((tZ n o1 o2).reads.turn i bit).L.getD j [] = (tZ n o1 o2).L.getD j []) ∧
    ((strOfNums ((((tZ n o1 o2).reads.turn i bit).reads.turn i bit).cur i)).toList = (strOfNums ((tZ n o1 o2).cur i)).toList) ∧
    (∃ k, R.kilnref3_SameImage.f k (((tZ n o1 o2).reads.turn i bit).reads.turn i bit).L (tZ n o1 o2).L = some true) ∧
    (∃ k, R.kilnlaw3_other.f k ((((tZ n o1 o2).turn i bit).crash fs).cur i) (((tZ n o1 o2).crash fs).cur i) (bit : Int) = some true) := by
  have hZ := DOk.tZ n o1 o2 hg1 hb1 hg2 hb2
  have hn := tZ_n n o1 o2
  generalize tZ n o1 o2 = Z at hZ hn ⊢
  subst hn
  have hil : i < Z.L.length := by rw [hZ.len]; exact hi
  have hm := mskB_lt (bit % 8) (by omega)
  have e1 : (Z.reads.turn i bit).cur i = flipL (bit / 8) (mskB (bit % 8)) (Z.cur i) := turn_cur Z.reads i bit hil
  have e2 : (Z.reads.turn i bit).L.getD i [] = flipL (bit / 8) (mskB (bit % 8)) (Z.L.getD i []) := turn_L Z.reads i bit hil
  have e3 : ((Z.reads.turn i bit).reads.turn i bit).cur i = Z.cur i := by
    have h_ := turn_cur (Z.reads.turn i bit).reads i bit (show i < (Z.L.set i _).length from by rw [List.length_set]; exact hil)
    rw [h_, show (Z.reads.turn i bit).reads.cur i = (Z.reads.turn i bit).cur i from rfl, e1, flip_flip _ _ _ (hZ.cur i hi).2 hm]
  have e4 : ((Z.reads.turn i bit).reads.turn i bit).L = Z.L := by
    show ((Z.L.set i _).set i (flipL _ _ ((Z.reads.turn i bit).L.getD i []))) = Z.L
    rw [List.set_set, e2, flip_flip _ _ _ (hZ.getL i hi).2 hm, List.getD_eq_getElem?_getD, List.getElem?_eq_getElem hil]
    exact List.set_getElem_self hil
  rw [e1, e2, e3, e4, turn_crash Z fs i bit hil]
  refine ⟨(other_flip _ (hZ.cur i hi) bit hbit).1, (other_flip _ (hZ.getL i hi) bit hbit).1, fun j hj hji => ?_, rfl, ?_, (other_flip _ ((hZ.crash fs).cur i hi) bit hbit).2⟩
  · show (Z.L.set i _).getD j [] = _
    rw [List.getD_eq_getElem?_getD, List.getElem?_set_ne (fun e => hji e.symm), ← List.getD_eq_getElem?_getD]
  · exact ⟨_, same_ok Z.L (by rw [hZ.len]; omega)⟩
open Classical in
noncomputable def turnsF (_k : Nat) (_a : Int) (l m : List S30) (_b _c : Int) (_f : List Int) : Option Bool := if BytS l ∧ BytS m then some true else none
theorem turns_row (k : Nat) (a0 : Int) (A1 : Option Addr) (c1 : Nat) (l1 : List S30) (A2 : Option Addr) (c2 : Nat) (l2 : List S30) (a3 a4 : Int) (A5 : Option Addr) (c5 : Nat) (fs : List Int) (r : Bool) (w : World)
    (hr1 : Kd.C k30 w A1 l1.length l1) (hc1 : l1.length ≤ c1) (hr2 : Kd.C k30 w A2 l2.length l2) (hc2 : l2.length ≤ c2) (hr5 : Kd.C (Kd.int .i64) w A5 fs.length fs) (hc5 : fs.length ≤ c5) (h : turnsF k a0 l1 l2 a3 a4 fs = some r) :
    Calls Try.prog 10 #[.int .i64 a0, .slice A1 l1.length c1, .slice A2 l2.length c2, .int .i64 a3, .int .i64 a4, .slice A5 fs.length c5] w fun e w' => e = .returned (.bool r) ∧ Below w.heap.size w w' := by
  unfold turnsF at h
  split at h
  · rename_i hB
    cases h
    obtain ⟨n, hn2, hnm, hm⟩ := made_ok3 a0
    obtain ⟨k1, o1, h1, hl1, hg1, hb1, _⟩ := hm l1 hB.1
    obtain ⟨k2, o2, h2, hl2, hg2, hb2, _⟩ := hm l2 hB.2
    obtain ⟨k3, o3, h3, _, _, _, e3⟩ := hm [] (fun x hx => by cases hx)
    obtain rfl := e3 rfl
    obtain ⟨i, hi, hi0, hi1⟩ := mod_ok a3 (n : Int) (by omega) (by omega)
    obtain ⟨i, rfl⟩ := Int.eq_ofNat_of_zero_le hi0
    obtain ⟨bit, hb, hb0, hb1'⟩ := mod_ok a4 4096 (by omega) (by omega)
    obtain ⟨bit, rfl⟩ := Int.eq_ofNat_of_zero_le hb0
    obtain ⟨p1, p2, p3, p4, p5, p6⟩ := turns_all n o1 o2 hg1 hb1 hg2 hb2 fs i bit (by omega) hnm (by omega)
    exact turns_calls k1 k2 k3 a0 A1 c1 l1 A2 c2 l2 a3 a4 A5 c5 fs w hr1 hc1 hr2 hc2 hr5 hc5 n o1 o2 h1 h2 h3 hn2 hnm hl1 hl2 hg1 hg2 i bit (by omega) (by omega) hi hb p1 p2 p3 p4 p5 p6
  · cases h
def BytW (l : List S30) : Prop := ∀ x ∈ l, ∀ b ∈ x.f1, (Lit.int .u8 b).wf = true
theorem BytW.S {l : List S30} (h : BytW l) : BytS l := fun x hx b hb => by
  have h1 := (Lit.wf_int_iff .u8 b).1 (h x hx b hb)
  have h2 : IntKind.min .u8 = 0 := rfl
  have h3 : IntKind.max .u8 = 255 := rfl
  rw [h2, h3] at h1
  omega
theorem turns_pure : ∀ (a0 : Int) (l1 l2 : List S30) (a3 a4 : Int) (fs : List Int), (Lit.int .i64 a0).wf = true → l1.length ≤ 9223372036854775807 → BytW l1 → l2.length ≤ 9223372036854775807 → BytW l2 → (Lit.int .i64 a3).wf = true → (Lit.int .i64 a4).wf = true → fs.length ≤ 9223372036854775807 → (∀ n ∈ fs, (Lit.int .i64 n).wf = true) → ∃ k, turnsF k a0 l1 l2 a3 a4 fs = some true := fun _ _ _ _ _ _ _ _ h1 _ h2 _ _ _ _ => ⟨0, if_pos ⟨h1.S, h2.S⟩⟩
end Go.Proofs.Ytddnhcnkjcdfgaa.M
namespace Go.Proofs.Ytddnhcnkjcdfgaa.Bulk
open Go.ChangeShapes Go.WideShapes Go.Proofs.YtddnhcnkjcdfgaaW.PrintWords Go.Proofs.Ytddnhcnkjcdfgaa.M
section
variable {H : Type} {enc : TypeId × Value → H} {W : World} {base : Nat} {spare : Nat → Bool} {held : Bool}
theorem opens_30b : Opens enc Try.prog W base spare held 30 Go.Proofs.Ytddnhcnkjcdfgaa.P.k30 (fun y _ => ∀ b ∈ y.f1, (Lit.int .u8 b).wf = true) := by
  intro fuel cs x h
  obtain ⟨xs, n, _, rfl, hl, hx, hf⟩ := DataW.trod_struct Try.underlying30 h
  rw [show Try.prog.cellsOf 30 = 2 by kernel_rfl] at hl
  obtain ⟨c0, c1, rfl⟩ : ∃ c0 c1, cs = [c0, c1] := two_of_len hl
  have hx2 : xs.length = 2 := hx
  obtain ⟨x0, x1, rfl⟩ : ∃ x0 x1, xs = [x0, x1] := two_of_len hx2
  have q3 : Try.prog.cellsOf 3 = 1 := by kernel_rfl
  have q28 : Try.prog.cellsOf 28 = 1 := by kernel_rfl
  have f0 : DataW.trod enc Try.prog W base spare held n 3 (([c0, c1].drop 0).take (Try.prog.cellsOf 3)) = some x0 := hf 0 _ rfl
  have f1 : DataW.trod enc Try.prog W base spare held n 28 (([c0, c1].drop 1).take (Try.prog.cellsOf 28)) = some x1 := hf 1 _ rfl
  rw [q3] at f0
  rw [q28] at f1
  obtain ⟨y0, k0, _⟩ := opens_int Try.underlying3 _ _ _ f0
  obtain ⟨y1, k1, hk1⟩ := opens_28 _ _ _ f1
  exact ⟨⟨y0, y1⟩, ⟨[c0], [c1], rfl, k0, k1⟩, hk1.2⟩
theorem arg_22b {a : Option Addr} {len cap : Nat} {dd : DataW H} {ps : List MemPlace}
    (h : DataW.Trod enc Try.prog W base spare held 22 (.slice a len cap) dd ps) : ∃ l, len = l.length ∧ l.length ≤ cap ∧ Kd.C Go.Proofs.Ytddnhcnkjcdfgaa.P.k30 W a l.length l ∧ l.length ≤ 9223372036854775807 ∧ BytW l := by
  obtain ⟨l, h1, h2, h3, h4, _, h5⟩ := arg_full (q := 30) (opens_slice Try.underlying22 (by kernel_rfl) (fun _ _ _ _ h => h) opens_30b) h
  exact ⟨l, h1, h2, h3, h4, h5.2⟩
end
end Go.Proofs.Ytddnhcnkjcdfgaa.Bulk
