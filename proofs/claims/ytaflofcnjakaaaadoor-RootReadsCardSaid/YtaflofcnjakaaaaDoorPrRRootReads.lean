/- Which of two slots counts, whatever stands in the two sectors, of disks of any size: package root answers as the document does, and takes only Reads; the table of package wire as the program's text lays it. -/
import Derived.Test.YtaflofcnjakaaaaDoorPrZ3
import Derived.Test.YtaflofcnjakaaaaDoorCards
import Derived.Test.YtaflofcnjakaaaaDoorTie
import Derived.WalkKit
import Derived.ProofKit
import Derived.OpenShut
import Derived.ShutString
import Derived.ChangeOld
import Derived.Below
import Derived.SizedLaws
import Derived.Deep.DeepHandedRow
import Derived.Lib.LaidTab
namespace Go.Proofs.YtaflofcnjakaaaaDoor.M
open Go.RowKit Go.Maps Go.Proofs.YtaflofcnjakaaaaDoorW.PrintWords Go.Proofs.YtaflofcnjakaaaaDoorW.PrintLast Go.Proofs.YtaflofcnjakaaaaDoorW.PrintMore Go.Proofs.YtaflofcnjakaaaaDoor.Pl Go.Proofs.YtaflofcnjakaaaaDoor.Z Go.Proofs.YtaflofcnjakaaaaDoor.A
set_option linter.unusedVariables false
set_option linter.unusedSimpArgs false
theorem w64d (x : Int) (h0 : -9223372036854775808 ≤ x) (h1 : x < 9223372036854775808) : wrap64 x = x := by unfold wrap64; omega
theorem rd106 (l : List S106) (j : Nat) (h : j < l.length) : rd_T106 l (j : Int) = l[j] := by
  unfold rd_T106
  rw [Int.toNat_natCast, List.getD_eq_getElem?_getD, List.getElem?_eq_getElem h]
  rfl
def wOf (l : List S106) (n : Int) : List (List Int) := (l.filter (fun x => decide (x.f0 = n))).map (·.f1)
theorem wOf_snoc (l : List S106) (x : S106) (n : Int) : wOf (l ++ [x]) n = if x.f0 = n then wOf l n ++ [x.f1] else wOf l n := by
  unfold wOf
  rw [List.filter_append, List.map_append, List.filter_cons]
  by_cases e : x.f0 = n
  · rw [if_pos (by simpa using e), if_pos e]; rfl
  · rw [if_neg (by simpa using e), if_neg e]; simp
def lastR (l : List S106) (n : Int) : List Int := match (wOf l n).getLast? with | some b => b | none => zeros
theorem lastR_snoc (l : List S106) (x : S106) (n : Int) : lastR (l ++ [x]) n = if x.f0 = n then x.f1 else lastR l n := by
  unfold lastR
  rw [wOf_snoc]
  by_cases e : x.f0 = n
  · rw [if_pos e, if_pos e, List.getLast?_concat]
  · rw [if_neg e, if_neg e]
theorem wOf_filter (l : List S106) (a n : Int) (h : n ≠ a) : wOf (l.filter (fun x => decide (x.f0 ≠ a))) n = wOf l n := by
  unfold wOf
  rw [List.filter_filter]
  congr 1
  apply List.filter_congr
  intro x _
  by_cases e : x.f0 = n
  · rw [decide_eq_true e, decide_eq_true (show x.f0 ≠ a from fun e2 => h (e.symm.trans e2))]
    rfl
  · rw [decide_eq_false e, Bool.false_and]
theorem lastR_filter (l : List S106) (a n : Int) (h : n ≠ a) : lastR (l.filter (fun x => decide (x.f0 ≠ a))) n = lastR l n := by
  unfold lastR
  rw [wOf_filter l a n h]
def putR (l : List S106) (n : Int) (b : List Int) : List S106 := l.filter (fun x => decide (x.f0 ≠ n)) ++ [⟨n, b⟩]
theorem lastR_put (l : List S106) (a : Int) (b : List Int) (n : Int) : lastR (putR l a b) n = if a = n then b else lastR l n := by
  unfold putR
  rw [lastR_snoc]
  by_cases e : a = n
  · rw [if_pos e, if_pos e]
  · rw [if_neg e, if_neg e, lastR_filter l a n (fun h => e h.symm)]
theorem putR_len (l : List S106) (n : Int) (b : List Int) : (putR l n b).length ≤ l.length + 1 := by
  unfold putR
  rw [List.length_append, List.length_singleton]
  have := List.length_filter_le (fun x => decide (x.f0 ≠ n)) l
  omega
theorem take_succ106 (l : List S106) (j : Nat) (h : j < l.length) : l.take (j + 1) = l.take j ++ [l[j]] := List.take_succ_eq_append_getElem h
theorem put_l0 (l : List S106) (n : Int) (b : List Int) (hl : l.length ≤ 1000000) : ∀ m j, j + m = l.length → ∀ d, kilnref3_put.l0 (m + 1 + d) l n b ((l.take j).filter (fun x => decide (x.f0 ≠ n))) (j : Int) = some (putR l n b)
  | 0, j, h, d => by
    have hf := List.length_filter_le (fun x : S106 => decide (x.f0 ≠ n)) (l.take j)
    have ht := List.length_take_le j l
    rw [show 0 + 1 + d = d + 1 by omega]
    unfold kilnref3_put.l0
    rw [if_neg (by omega), if_pos (by omega), List.take_of_length_le (by omega)]
    rfl
  | m + 1, j, h, d => by
    have ih := put_l0 l n b hl m (j + 1) (by omega) d
    have hf := List.length_filter_le (fun x : S106 => decide (x.f0 ≠ n)) (l.take j)
    have ht := List.length_take_le j l
    rw [take_succ106 l j (by omega), List.filter_append] at ih
    rw [show m + 1 + 1 + d = (m + 1 + d) + 1 by omega]
    unfold kilnref3_put.l0
    rw [if_pos (by omega), if_pos (by omega), rd106 l j (by omega), w64d _ (by omega) (by omega)]
    by_cases e : l[j].f0 = n
    · rw [if_pos e]
      rw [List.filter_cons, if_neg (by simpa using e), List.filter_nil, List.append_nil] at ih
      exact ih
    · rw [if_neg e, if_pos (by omega)]
      rw [List.filter_cons, if_pos (by simpa using e), List.filter_nil] at ih
      exact ih
theorem put_ev (l : List S106) (n : Int) (b : List Int) (hl : l.length ≤ 1000000) : ∀ k, l.length + 1 ≤ k → kilnref3_put.f k l n b = some (putR l n b) := fun k hk => by
  have h := put_l0 l n b hl l.length 0 (by omega) (k - (l.length + 1))
  rw [show l.length + 1 + (k - (l.length + 1)) = k by omega] at h
  exact h
theorem lasts_l0 (l l2 : List S106) (n a r wr fl : Int) (hl : l.length ≤ 1000000) : ∀ m, m ≤ l.length → ∀ d, kilnref3_lasts.l0 (m + 1 + d) n ((m : Int) - 1) a l l2 r wr fl = some (lastR (l.take m) n)
  | 0, h, d => by
    rw [show 0 + 1 + d = d + 1 by omega]
    unfold kilnref3_lasts.l0
    rw [if_neg (by omega)]
    show (kilnref3_Zeros.f).bind _ = _
    rw [show kilnref3_Zeros.f = some zeros from if_pos (by decide)]
    rfl
  | m + 1, h, d => by
    have ih := lasts_l0 l l2 n a r wr fl hl m (by omega) d
    rw [show m + 1 + 1 + d = (m + 1 + d) + 1 by omega, take_succ106 l m (by omega), lastR_snoc]
    unfold kilnref3_lasts.l0
    rw [show ((m + 1 : Nat) : Int) - 1 = (m : Int) by omega, if_pos (by omega), if_pos (by omega), if_pos (by omega), rd106 l m (by omega)]
    by_cases e : l[m].f0 = n
    · rw [if_pos e, if_pos e]
    · rw [if_neg e, if_neg e, w64d _ (by omega) (by omega)]
      exact ih
theorem lasts_ev (l l2 : List S106) (n a r wr fl : Int) (hl : l.length ≤ 1000000) : ∀ k, l.length + 1 ≤ k → kilnref3_lasts.f k a l l2 r wr fl n = some (lastR l n) := fun k hk => by
  have h := lasts_l0 l l2 n a r wr fl hl l.length (Nat.le_refl _) (k - (l.length + 1))
  rw [show l.length + 1 + (k - (l.length + 1)) = k by omega, List.take_length] at h
  unfold kilnref3_lasts.f
  rw [w64d _ (by omega) (by omega)]
  exact h
def nowR (l1 l2 : List S106) (n : Int) : List Int := match (wOf l2 n).getLast? with | some b => b | none => lastR l1 n
theorem nowR_snoc (l1 l : List S106) (x : S106) (n : Int) : nowR l1 (l ++ [x]) n = if x.f0 = n then x.f1 else nowR l1 l n := by
  unfold nowR
  rw [wOf_snoc]
  by_cases e : x.f0 = n
  · rw [if_pos e, if_pos e, List.getLast?_concat]
  · rw [if_neg e, if_neg e]
def Sho (l : List S106) : Prop := ∀ x ∈ l, x.f1.length ≤ 1000000
theorem copy_ok (b : List Int) (h : b.length ≤ 1000000) : kilnref3_Copy.f b = some b := if_pos (by omega)
theorem now_l0 (l1 l2 : List S106) (n a r wr fl : Int) (h1 : l1.length ≤ 1000000) (h2 : l2.length ≤ 1000000) (hs : Sho l2) (hz : (lastR l1 n).length ≤ 1000000) : ∀ m, m ≤ l2.length → ∀ d, l1.length ≤ d → kilnref3_Now.l0 (m + 1 + (d + 1)) n ((m : Int) - 1) a l1 l2 r wr fl = some (nowR l1 (l2.take m) n)
  | 0, h, d, hd => by
    rw [show 0 + 1 + (d + 1) = (d + 1) + 1 by omega]
    unfold kilnref3_Now.l0
    rw [if_neg (by omega), lasts_ev l1 l2 n a r wr fl h1 (d + 1) (by omega), Option.bind_some, copy_ok _ hz]
    rfl
  | m + 1, h, d, hd => by
    have ih := now_l0 l1 l2 n a r wr fl h1 h2 hs hz m (by omega) d hd
    rw [show m + 1 + 1 + (d + 1) = (m + 1 + (d + 1)) + 1 by omega, take_succ106 l2 m (by omega), nowR_snoc]
    unfold kilnref3_Now.l0
    rw [show ((m + 1 : Nat) : Int) - 1 = (m : Int) by omega, if_pos (by omega), if_pos (by omega), if_pos (by omega), rd106 l2 m (by omega)]
    by_cases e : l2[m].f0 = n
    · rw [if_pos e, if_pos e, copy_ok _ (hs _ (List.getElem_mem _))]
      rfl
    · rw [if_neg e, if_neg e, w64d _ (by omega) (by omega)]
      exact ih
theorem now_ev (l1 l2 : List S106) (n a r wr fl : Int) (h1 : l1.length ≤ 1000000) (h2 : l2.length ≤ 1000000) (hs : Sho l2) (hz : (lastR l1 n).length ≤ 1000000) : ∀ k, l1.length + l2.length + 2 ≤ k → kilnref3_Now.f k a l1 l2 r wr fl n = some (nowR l1 l2 n) := fun k hk => by
  have h := now_l0 l1 l2 n a r wr fl h1 h2 hs hz l2.length (Nat.le_refl _) (k - (l2.length + 2)) (by omega)
  rw [show l2.length + 1 + (k - (l2.length + 2) + 1) = k by omega, List.take_length] at h
  unfold kilnref3_Now.f
  rw [w64d _ (by omega) (by omega)]
  exact h
theorem write_l0 (l1 l2 : List S106) (n a r wr fl : Int) (b : List Int) (hb : b.length ≤ 1000000) (h2 : l2.length ≤ 1000000) : ∀ m j, j + m = l2.length → ∀ d, kilnref3_Write.l0 (m + 1 + d) n b (l2.take j) (j : Int) a l1 l2 r wr fl = some (a, l1, l2 ++ [⟨n, b⟩], r, wrap64 (wr + 1), fl, 0)
  | 0, j, h, d => by
    rw [show 0 + 1 + d = d + 1 by omega, List.take_of_length_le (by omega)]
    unfold kilnref3_Write.l0
    rw [if_neg (by omega), copy_ok b hb, Option.bind_some, if_pos (by omega)]
  | m + 1, j, h, d => by
    have ih := write_l0 l1 l2 n a r wr fl b hb h2 m (j + 1) (by omega) d
    have ht := List.length_take_le j l2
    rw [take_succ106 l2 j (by omega)] at ih
    rw [show m + 1 + 1 + d = (m + 1 + d) + 1 by omega]
    unfold kilnref3_Write.l0
    rw [if_pos (by omega), if_pos (by omega), if_pos (by omega), rd106 l2 j (by omega), w64d _ (by omega) (by omega)]
    exact ih
theorem write_ev (l1 l2 : List S106) (n i : Nat) (hi : i < n) (r wr fl : Int) (b : List Int) (hb : b.length = 512) (h2 : l2.length ≤ 1000000) : ∀ k, l2.length + 2 ≤ k → kilnref3_Write.f k (n : Int) l1 l2 r wr fl (i : Int) b = some ((n : Int), l1, l2 ++ [⟨(i : Int), b⟩], r, wrap64 (wr + 1), fl, 0) := fun k hk => by
  have h := write_l0 l1 l2 (i : Int) (n : Int) r wr fl b (by omega) h2 l2.length 0 (by omega) (k - (l2.length + 2))
  obtain ⟨q, rfl⟩ : ∃ q, k = q + 1 := ⟨k - 1, by omega⟩
  rw [show l2.length + 1 + (q + 1 - (l2.length + 2)) = q by omega] at h
  unfold kilnref3_Write.f
  rw [if_neg (by omega), decide_eq_false (by omega)]
  rw [kilnref3_Write.j0.eq_2]
  rw [if_neg (by decide), if_pos (by omega)]
  exact h
def flushR (l1 : List S106) : List S106 → List S106 := fun l2 => l2.foldl (fun l x => putR l x.f0 x.f1) l1
theorem flushR_snoc (l1 l : List S106) (x : S106) : flushR l1 (l ++ [x]) = putR (flushR l1 l) x.f0 x.f1 := by unfold flushR; rw [List.foldl_append]; rfl
theorem flushR_len (l1 l : List S106) : (flushR l1 l).length ≤ l1.length + l.length := by
  induction l generalizing l1 with
  | nil => exact Nat.le_refl _
  | cons x l ih =>
    have h := ih (putR l1 x.f0 x.f1)
    have h2 := putR_len l1 x.f0 x.f1
    show (flushR (putR l1 x.f0 x.f1) l).length ≤ _
    rw [List.length_cons]
    omega
theorem lastR_flush (l1 : List S106) (n : Int) (l2 : List S106) : ∀ m, m ≤ l2.length → lastR (flushR l1 (l2.take m)) n = nowR l1 (l2.take m) n
  | 0, _ => rfl
  | m + 1, h => by
    rw [take_succ106 l2 m (by omega), flushR_snoc, lastR_put, nowR_snoc, lastR_flush l1 n l2 m (by omega)]
theorem flush_l0 (l1 l2 : List S106) (a r wr fl : Int) (hl : l1.length + l2.length ≤ 1000000) : ∀ m j, j + m = l2.length → ∀ d, l1.length + l2.length + 1 ≤ d → kilnref3_Flush.l0 (m + 1 + d) (j : Int) a (flushR l1 (l2.take j)) l2 r wr fl = some (a, flushR l1 l2, [], r, wr, wrap64 (fl + 1))
  | 0, j, h, d, hd => by
    rw [show 0 + 1 + d = d + 1 by omega, List.take_of_length_le (by omega)]
    unfold kilnref3_Flush.l0
    rw [if_neg (by omega)]
  | m + 1, j, h, d, hd => by
    have ih := flush_l0 l1 l2 a r wr fl hl m (j + 1) (by omega) d hd
    have hfl := flushR_len l1 (l2.take j)
    have ht := List.length_take_le j l2
    have ht2 : (l2.take j).length ≤ l2.length := by rw [List.length_take]; omega
    rw [take_succ106 l2 j (by omega), flushR_snoc] at ih
    rw [show m + 1 + 1 + d = (m + 1 + d) + 1 by omega]
    unfold kilnref3_Flush.l0
    rw [if_pos (by omega), if_pos (by omega), rd106 l2 j (by omega), put_ev _ _ _ (by omega) _ (by omega), Option.bind_some, w64d _ (by omega) (by omega)]
    exact ih
theorem flush_ev (l1 l2 : List S106) (a r wr fl : Int) (hl : l1.length + l2.length ≤ 1000000) : ∀ k, 2 * (l1.length + l2.length) + 2 ≤ k → kilnref3_Flush.f k a l1 l2 r wr fl = some (a, flushR l1 l2, [], r, wr, wrap64 (fl + 1)) := fun k hk => by
  have h := flush_l0 l1 l2 a r wr fl hl l2.length 0 (by omega) (k - (l2.length + 1)) (by omega)
  rw [show l2.length + 1 + (k - (l2.length + 1)) = k by omega] at h
  exact h
def Ent (n : Nat) (x : S106) : Prop := (∃ i : Nat, i < n ∧ x.f0 = (i : Int)) ∧ x.f1.length = 512
structure Rl (s : DS) (l1 l2 : List S106) : Prop where
  len : s.L.length = s.n
  e1 : ∀ x ∈ l1, Ent s.n x
  e2 : ∀ x ∈ l2, Ent s.n x
  hL : ∀ i, i < s.n → lastR l1 (i : Int) = s.L.getD i []
  hW : ∀ i, i < s.n → wOf l2 (i : Int) = s.W i
theorem mem_wOf {l : List S106} {n : Int} {b : List Int} (h : b ∈ wOf l n) : ∃ x ∈ l, x.f0 = n ∧ x.f1 = b := by
  unfold wOf at h
  obtain ⟨x, hx, rfl⟩ := List.mem_map.1 h
  obtain ⟨h1, h2⟩ := List.mem_filter.1 hx
  exact ⟨x, h1, by simpa using h2, rfl⟩
theorem lastR_len {l : List S106} {n : Nat} (h : ∀ x ∈ l, Ent n x) (a : Int) : (lastR l a).length = 512 := by
  unfold lastR
  cases e : (wOf l a).getLast? with
  | none => exact zeros_len
  | some b =>
    obtain ⟨x, hx, _, rfl⟩ := mem_wOf (List.mem_of_getLast? e)
    exact (h x hx).2
theorem putR_ent' {l : List S106} {n : Nat} (h : ∀ x ∈ l, Ent n x) (y : S106) (hy : Ent n y) : ∀ x ∈ putR l y.f0 y.f1, Ent n x := by
  intro x hx
  unfold putR at hx
  rcases List.mem_append.1 hx with hx | hx
  · exact h x (List.mem_filter.1 hx).1
  · rw [List.mem_singleton.1 hx]; exact hy
section
variable {s : DS} {l1 l2 : List S106}
theorem Rl.now (h : Rl s l1 l2) (i : Nat) (hi : i < s.n) : nowR l1 l2 (i : Int) = s.cur i := by
  unfold nowR DS.cur
  rw [h.hW i hi]
  cases (s.W i).getLast? with
  | none => exact h.hL i hi
  | some b => rfl
theorem Rl.sho (h : Rl s l1 l2) : Sho l2 := fun x hx => by rw [(h.e2 x hx).2]; decide
theorem Rl.put (h : Rl s l1 l2) (i : Nat) (hi : i < s.n) (b : List Int) (hb : b.length = 512) : Rl (s.put i b) l1 (l2 ++ [⟨(i : Int), b⟩]) :=
  ⟨h.len, h.e1, fun x hx => by
    rcases List.mem_append.1 hx with hx | hx
    · exact h.e2 x hx
    · rw [List.mem_singleton.1 hx]; exact ⟨⟨i, hi, rfl⟩, hb⟩, h.hL, fun j hj => by
    rw [wOf_snoc, h.hW j hj]
    show (if (i : Int) = (j : Int) then s.W j ++ [b] else s.W j) = (if j = i then s.W i ++ [b] else s.W j)
    by_cases e : j = i
    · subst e; rw [if_pos rfl, if_pos rfl]
    · rw [if_neg (by omega), if_neg e]⟩
theorem flushR_ent {n : Nat} : ∀ (l2 l1 : List S106), (∀ x ∈ l1, Ent n x) → (∀ x ∈ l2, Ent n x) → ∀ x ∈ flushR l1 l2, Ent n x
  | [], l1, h1, _ => h1
  | y :: l2, l1, h1, h2 => flushR_ent l2 (putR l1 y.f0 y.f1) (putR_ent' h1 y (h2 y List.mem_cons_self)) (fun x hx => h2 x (List.mem_cons_of_mem _ hx))
theorem Rl.flush (h : Rl s l1 l2) : Rl s.flush (flushR l1 l2) [] :=
  ⟨by show ((List.range s.n).map s.cur).length = s.n; rw [List.length_map, List.length_range], flushR_ent l2 l1 h.e1 h.e2, fun x hx => (by cases hx), fun i hi => by
    have h1 := lastR_flush l1 (i : Int) l2 l2.length (Nat.le_refl _)
    rw [List.take_length, h.now i hi] at h1
    rw [h1]
    show _ = ((List.range s.n).map s.cur).getD i []
    rw [List.getD_eq_getElem?_getD, List.getElem?_map, List.getElem?_range (show i < s.n from hi)]
    rfl, fun i hi => rfl⟩
theorem Rl.fresh (n : Nat) : Rl (DS.fresh n (List.replicate n zeros)) [] [] :=
  ⟨List.length_replicate, fun x hx => (by cases hx), fun x hx => (by cases hx), fun i hi => by
    show zeros = (List.replicate n zeros).getD i []
    rw [List.getD_eq_getElem?_getD, List.getElem?_replicate, if_pos (show i < n from hi)]
    rfl, fun i hi => rfl⟩
end
end Go.Proofs.YtaflofcnjakaaaaDoor.M

namespace Go.Proofs.YtaflofcnjakaaaaDoor.M
open Go.RowKit Go.Maps Go.Proofs.YtaflofcnjakaaaaDoorW.PrintWords Go.Proofs.YtaflofcnjakaaaaDoorW.PrintLast Go.Proofs.YtaflofcnjakaaaaDoorW.PrintMore Go.Proofs.YtaflofcnjakaaaaDoor.Pl
set_option linter.unusedVariables false
def kSL : Kd SL where
  sz := 105
  E := []
  K := fun _ x cs => x.Ok ∧ cs = x.V
  M := fun _ _ _ x cs => x.Ok ∧ cs = x.V
  K_len := by rintro w x cs ⟨h, rfl⟩; exact SL.V_len h
  K_one := by
    rintro w x cs ⟨h, rfl⟩ u hu
    exact Array.all_eq_true'.1 (SL.V_all x) u (by simpa using hu)
  K_below := fun _ h => h
  K_of_M := fun h => h
  M_mono := fun _ h => h
  M_bound := fun h => h
  M_move := fun _ h => h
  M_lower := fun _ h => h
structure T61 where
  f0 : Int
  s : SL
  b : Int
  raw : List Int
def z61 : T61 := ⟨0, noSL, 0, []⟩
def k61 : Kd T61 := Kd.iso (Kd.pair (Kd.int .i64) (Kd.pair kSL (Kd.pair (Kd.int .i64) (Kd.slice 5 (Kd.int .u8))))) (fun x : T61 => (x.f0, x.s, x.b, x.raw))
def putC (x : T61) (A3 : Option Addr) (c3 : Nat) : List Value := [Value.int .i64 x.f0] ++ (x.s.V ++ [.int .i64 x.b, .slice A3 x.raw.length c3])
theorem k61_open {w : World} {x : T61} {cs : List Value} (h : k61.K w x cs) : x.s.Ok ∧ ∃ A3 c3, cs = putC x A3 c3 ∧ x.raw.length ≤ c3 ∧ (Kd.int .u8).C w A3 x.raw.length x.raw := by
  obtain ⟨_, _, rfl, rfl, ⟨_, _, rfl, ⟨h1, rfl⟩, ⟨_, _, rfl, rfl, ⟨A3, c3, rfl, l3, g3⟩⟩⟩⟩ := h
  exact ⟨h1, A3, c3, rfl, l3, g3⟩
theorem k61_mk (w : World) (x : T61) (hs : x.s.Ok) {A3 : Option Addr} {c3 : Nat} (l3 : x.raw.length ≤ c3) (g3 : (Kd.int .u8).C w A3 x.raw.length x.raw) : k61.K w x (putC x A3 c3) :=
  ⟨[.int .i64 x.f0], _, rfl, rfl, ⟨x.s.V, _, rfl, ⟨hs, rfl⟩, ⟨[.int .i64 x.b], _, rfl, rfl, ⟨A3, c3, rfl, l3, g3⟩⟩⟩⟩
theorem putC_len {x : T61} (hs : x.s.Ok) (A3 : Option Addr) (c3 : Nat) : (putC x A3 c3).length = 108 := by
  unfold putC
  rw [List.length_append, List.length_append, SL.V_len hs]; rfl
theorem at_T61 {w : World} {A : Option Addr} {n : Nat} {xs : List T61} (h : Kd.C k61 w A n xs) (i : Nat) (h1 : i < n) : (xs.getD i z61).s.Ok ∧ ∃ ad A3 c3, A = some ad ∧ (∀ j v, (putC (xs.getD i z61) A3 c3)[j]? = some v → w.cell? (ad.add (i * 108 + j)) = some v) ∧ (xs.getD i z61).raw.length ≤ c3 ∧ (Kd.int .u8).C w A3 (xs.getD i z61).raw.length (xs.getD i z61).raw := by
  obtain ⟨ad, c, e, _, hK, hc0⟩ := Kd.C_get h z61 (i : Int) (by omega) (by omega)
  obtain ⟨hs, A3, c3, rfl, l3, g3⟩ := k61_open hK
  exact ⟨hs, ad, A3, c3, e, hc0, l3, g3⟩
end Go.Proofs.YtaflofcnjakaaaaDoor.M
namespace Go.Proofs.YtaflofcnjakaaaaDoor.BulkW
open Go.ChangeShapes Go.WideShapes Go.Proofs.YtaflofcnjakaaaaDoorW.PrintWords Go.Proofs.YtaflofcnjakaaaaDoor.M Go.Proofs.YtaflofcnjakaaaaDoor.Pl Go.Proofs.YtaflofcnjakaaaaDoor.A
set_option linter.unusedVariables false
section
variable {H : Type} {enc : TypeId × Value → H} {W : World} {base : Nat} {spare : Nat → Bool} {held : Bool}
set_option maxRecDepth 100000 in
theorem opens_28b : Opens enc Tryd.prog W base spare held 28 (Kd.slice 5 (Kd.int .u8)) (fun ys => bytes_ ys) := fun f cs x h hw => by
  obtain ⟨y, h1, _, h2⟩ := opens_slice (q := 5) (d := Kd.int .u8) Tryd.underlying28 (by kernel_rfl) (opens_int Tryd.underlying5) f cs x h hw
  exact ⟨y, h1, fun v hv => Bulk.bound_u8 (h2 v hv)⟩
set_option maxRecDepth 100000 in
theorem opens_61 : Opens enc Tryd.prog W base spare held 61 k61 (fun y => bytes_ y.raw) := by
  intro fuel cs x h hw
  obtain ⟨xs, n, _, rfl, hl, hx, hf⟩ := DataW.trod_struct Tryd.underlying61 h
  rw [show Tryd.prog.cellsOf 61 = 108 by kernel_rfl] at hl
  obtain ⟨x0, x1, x2, x3, rfl⟩ : ∃ x0 x1 x2 x3, xs = [x0, x1, x2, x3] := by
    match xs, hx with
    | [x0, x1, x2, x3], _ => exact ⟨x0, x1, x2, x3, rfl⟩
  have hw1 : ∀ n ∈ x0.1.weights Tryd.prog 3 ++ (x1.1.weights Tryd.prog 27 ++ (x2.1.weights Tryd.prog 3 ++ (x3.1.weights Tryd.prog 28 ++ []))), n ≤ reachBytes := by
    have h1 := hw
    dsimp only at h1
    unfold DataW.weights at h1
    rw [Tryd.underlying61] at h1
    exact h1
  have q3 : Tryd.prog.cellsOf 3 = 1 := by kernel_rfl
  have q27 : Tryd.prog.cellsOf 27 = 105 := by kernel_rfl
  have q28 : Tryd.prog.cellsOf 28 = 1 := by kernel_rfl
  have f0 : DataW.trod enc Tryd.prog W base spare held n 3 ((cs.drop 0).take (Tryd.prog.cellsOf 3)) = some x0 := hf 0 _ rfl
  have f1 : DataW.trod enc Tryd.prog W base spare held n 27 ((cs.drop 1).take (Tryd.prog.cellsOf 27)) = some x1 := hf 1 _ rfl
  have f2 : DataW.trod enc Tryd.prog W base spare held n 3 ((cs.drop 106).take (Tryd.prog.cellsOf 3)) = some x2 := hf 2 _ rfl
  have f3 : DataW.trod enc Tryd.prog W base spare held n 28 ((cs.drop 107).take (Tryd.prog.cellsOf 28)) = some x3 := hf 3 _ rfl
  rw [q3] at f0 f2
  rw [q27] at f1
  rw [q28] at f3
  obtain ⟨a, g0⟩ := Bulk.opens_i64 f0
  obtain ⟨s, hs, g1⟩ := Bulk.opens_slot f1
  obtain ⟨b, g2⟩ := Bulk.opens_i64 f2
  obtain ⟨raw, ⟨A3, c3, g3, l3, r3⟩, hraw⟩ := opens_28b _ _ _ f3 (fun n hn => hw1 n (by simp only [List.mem_append]; exact .inr (.inr (.inr (.inl hn)))))
  have c0 := Bulk.cut_ cs 0 1 g0
  have c1 := Bulk.cut_ cs 1 105 g1
  have c2 := Bulk.cut_ cs 106 1 g2
  have c4 := Bulk.cut_ cs 107 1 g3
  rw [List.drop_zero] at c0
  have e : cs = putC ⟨a, s, b, raw⟩ A3 c3 := by
    rw [c0, c1, c2, c4, List.drop_eq_nil_of_le (show cs.length ≤ 107 + 1 by omega)]
    rfl
  rw [e]
  exact ⟨⟨a, s, b, raw⟩, k61_mk W ⟨a, s, b, raw⟩ hs l3 r3, hraw⟩
theorem arg_59 {a : Option Addr} {len cap : Nat} {dd : DataW H} {ps : List MemPlace}
    (h : DataW.Trod enc Tryd.prog W base spare held 59 (.slice a len cap) dd ps) (hw : ∀ n ∈ dd.weights Tryd.prog 59, n ≤ reachBytes) : ∃ l, len = l.length ∧ l.length ≤ cap ∧ Kd.C k61 W a l.length l ∧ l.length ≤ 9223372036854775807 ∧ ∀ y ∈ l, bytes_ y.raw := by
  obtain ⟨l, h1, h2, h3, h4, h5⟩ := arg_full (q := 61) (opens_slice Tryd.underlying59 (by kernel_rfl) opens_61) h hw
  exact ⟨l, h1, h2, h3, h4, h5.2⟩
end
end Go.Proofs.YtaflofcnjakaaaaDoor.BulkW

namespace Go.Proofs.YtaflofcnjakaaaaDoor.M
open Go.RowKit Go.Maps Go.Proofs.YtaflofcnjakaaaaDoorW.PrintWords Go.Proofs.YtaflofcnjakaaaaDoorW.PrintLast Go.Proofs.YtaflofcnjakaaaaDoorW.PrintMore Go.Proofs.YtaflofcnjakaaaaDoor.Wr Go.Proofs.YtaflofcnjakaaaaDoor.Pl Go.Proofs.YtaflofcnjakaaaaDoor.P Go.Proofs.YtaflofcnjakaaaaDoor.A Go.Proofs.YtaflofcnjakaaaaDoor.Crc
set_option linter.unusedVariables false
set_option linter.unusedSimpArgs false
def by6_T : Bool × List (List Nat × List Nat) := (true, [([], []), ([], []), ([1], [1]), ([2], [2]), ([], []), ([], []), ([5], [5]), ([6], [6]), ([4, 7], [4, 7]), ([8], [8]), ([], []), ([10], [10]), ([11], [11]), ([12], [12]), ([9, 13], [9, 13]), ([0, 3, 0, 1, 2, 3, 4, 5, 6, 7, 8, 9, 10, 11, 12, 13, 14], [0, 3]), ([15, 14, 0, 1, 2, 3, 4, 5, 6, 7, 8, 9, 10, 11, 12, 13, 14], [14, 15])])
def by6_B : List Nat := [0, 0, 2, 6, 0, 0, 32, 96, 240, 496, 0, 1024, 3072, 7168, 16368, 32767, 65535]
theorem by6_tab : rtab .any (opsOf Tryd.f26 6) = by6_T := by kernel_rfl
theorem by6_bits : waitsOk by6_T.2 by6_B = true := by kernel_rfl
def bytB0 (x : T61) : List Int := if mayM x.s = true then encB x.s else x.raw.take (min x.raw.length 512) ++ (List.replicate 512 0).drop (min x.raw.length 512)
def bytB (x : T61) : List Int := if 0 ≤ x.b ∧ x.b < 4096 then flip1 (bytB0 x) x.b else bytB0 x
theorem bytB0_len {x : T61} (hs : x.s.Ok) : (bytB0 x).length = 512 := by
  unfold bytB0
  split
  · exact encB_len hs
  · rw [List.length_append, List.length_take, List.length_drop, List.length_replicate]; omega
theorem bytB0_bytes {x : T61} (hs : x.s.Ok) (hr : bytes_ x.raw) : bytes_ (bytB0 x) := by
  unfold bytB0
  split
  · exact bytes_encB hs
  · exact bytes_append (bytes_take hr _) (bytes_drop zeros_bytes _)
theorem bytB_len {x : T61} (hs : x.s.Ok) : (bytB x).length = 512 := by
  unfold bytB
  split
  · rw [flip1_len, bytB0_len hs]
  · exact bytB0_len hs
theorem bytB_bytes {x : T61} (hs : x.s.Ok) (hr : bytes_ x.raw) : bytes_ (bytB x) := by
  unfold bytB
  split
  · exact bytes_flip (bytB0_bytes hs hr) _
  · exact bytB0_bytes hs hr
theorem putC_slot {x : T61} (hs : x.s.Ok) (A3 : Option Addr) (c3 : Nat) : ((putC x A3 c3).drop 1).take x.s.V.length = x.s.V := by
  show (x.s.V ++ _).take _ = _
  exact take_app rfl
theorem putC_bit {x : T61} (hs : x.s.Ok) (A3 : Option Addr) (c3 : Nat) : (putC x A3 c3)[106]? = some (.int .i64 x.b) ∧ (putC x A3 c3)[107]? = some (.slice A3 x.raw.length c3) := by
  have e : ∀ j, (putC x A3 c3)[105 + 1 + j]? = [Value.int .i64 x.b, .slice A3 x.raw.length c3][j]? := fun j => by
    unfold putC
    rw [show 105 + 1 + j = (105 + j) + 1 by omega, List.getElem?_append_right (by simp), List.length_singleton, Nat.add_sub_cancel, List.getElem?_append_right (by rw [SL.V_len hs]; omega), SL.V_len hs, Nat.add_sub_cancel_left]
  exact ⟨e 0, e 1⟩
set_option maxHeartbeats 8000000 in
set_option maxRecDepth 100000 in
theorem Sep.bytesP {w0 w : World} {M L : List Th} (h : Sep w0 w M) (x : T61) (hs : x.s.Ok) (A3 : Option Addr) (c3 : Nat) (hraw : ∀ W N, Sub L N → Sep w0 W N → (Kd.int .u8).C W A3 x.raw.length x.raw) (hsub : Sub L M) (hr : bytes_ x.raw) (hc3 : x.raw.length ≤ c3) :
    Calls Tryd.prog 26 #[.agg (putC x A3 c3).toArray] w fun e w' => ∃ A c, e = .returned (.slice A 512 c) ∧ 512 ≤ c ∧ Sep w0 w' (ownT (Kd.int .u8) 5 (.slice A 512 c) (bytB x) :: M) := by
  have HS0 := Aside0.mk (h.push_alloc (putC x A3 c3).toArray 61)
  have HSub := Aside0.mk hsub
  have HRaw := Aside0.mk hraw
  have HSL := Aside0.mk (fun W (N : List Th) g (h : Sep w0 W (cellsT g (putC x A3 c3).toArray 61 :: N)) => (show ∀ j v, x.s.V.toArray.toList[j]? = some v → W.cell? ((⟨g, 1, none⟩ : Addr).add j) = some v from fun j v hv => seg_at h.cells.1 1 x.s.V (putC_slot hs A3 c3) j v (by simpa using hv)))
  have HBT := Aside0.mk (fun W (N : List Th) g (h : Sep w0 W (cellsT g (putC x A3 c3).toArray 61 :: N)) => (show W.cell? ⟨g, 106, none⟩ = some (.int .i64 x.b) ∧ W.cell? ⟨g, 107, none⟩ = some (.slice A3 x.raw.length c3) from ⟨cell_at h.cells.1 106 (putC_bit hs A3 c3).1, cell_at h.cells.1 107 (putC_bit hs A3 c3).2⟩))
  have HSZ := Aside0.mk (SlAt.sa hs)
  have HLN := Aside0.mk (bytB0_len hs)
  have HBY := Aside0.mk (bytB0_bytes hs hr)
  have HB1 := Aside0.mk (show 0 ≤ x.b → x.b < 4096 → bytB x = flip1 (bytB0 x) x.b from fun h1 h2 => if_pos ⟨h1, h2⟩)
  have HB2 := Aside0.mk (show ¬ (0 ≤ x.b ∧ x.b < 4096) → bytB x = bytB0 x from fun h => if_neg h)
  have HTail := Aside0.mk (show ∀ (w2 : World), True from fun _ => trivial)
  have HB0y := Aside0.mk (show mayM x.s = true → bytB0 x = encB x.s from fun h => if_pos h)
  have HB0n := Aside0.mk (show mayM x.s = false → bytB0 x = x.raw.take (min x.raw.length 512) ++ (List.replicate 512 0).drop (min x.raw.length 512) from fun h => if_neg (by rw [h]; simp))
  have HEN := Aside0.mk (fun (hm : mayM x.s = true) W (N : List Th) (h : Sep w0 W N) => Sep.encodeR h x.s hs hm)
  have HEX := Aside0.mk (fun (hm : mayM x.s = false) W => encodeR_no x.s hs hm W)
  have hrl : x.raw.length ≤ 9223372036854775807 := (hraw w M hsub h).2.1
  clear h hs hraw hsub hr hc3
  generalize (putC x A3 c3).toArray = PC at HS0 HSL HBT ⊢
  generalize x.s.V.toArray = V at HEN HEX HSL HSZ
  go_enter Tryd.func26, Tryd.ntmps26
  go_upto_region 1 with (fail)
  generalize w.alloc (.cells PC 61) = w1 at HS0 ⊢
  generalize w.heap.size = gp at HS0 ⊢
  cases hm : mayM x.s with
  | true =>
    go_upto_region 5 with (first
      | ((with_reducible refine gate_load (ty := 27) rfl ?_); refine wpList_ldw ?_ 27 _ rfl ⟨gp, 1, none⟩ ?_ V _ (HSL.out _ _ _ HS0.out) Tryd.underlying27 rfl HSZ.out ?_; exact rfl; exact rfl; skip)
      | (go_at_call 13; (with_reducible refine (HEN.out hm _ _ HS0.out).mono ?_); rintro e w2 ⟨A, c, rfl, h2⟩; have HS2 := Aside0.mk h2; clear h2))
    have HSa := Aside0.mk (show Sep w0 w2 (ownT (Kd.int .u8) 5 (.slice A 512 c) (bytB0 x) :: cellsT gp PC 61 :: M) from by rw [HB0y.out hm]; exact HS2.out)
    clear HS2 HS0
    obtain ⟨gb, rfl⟩ : ∃ gb, A = some ⟨gb, 0, none⟩ := by
      obtain ⟨_, _, hr⟩ := HSa.out.own
      obtain ⟨bw, cw, e2, _, _, _⟩ := Kd.R_form hr (by rw [HLN.out]; decide)
      simp only [Value.slice.injEq] at e2
      exact ⟨bw, e2.1⟩
    generalize w2 = wx at HSa ⊢
    have hp0 : wx.cell? ⟨gp, 106, none⟩ = some (.int .i64 x.b) := (HBT.out _ _ _ HSa.out.up1).1
    have HCA := Aside0.mk (show 512 ≤ c from by have := HSa.out.own_C.2; rwa [HLN.out] at this)
    by_cases h0 : 0 ≤ x.b
    · by_cases h1 : x.b < 4096
      · obtain ⟨q, k, hq, hk, hbit⟩ : ∃ q k : Nat, q < 512 ∧ k < 8 ∧ x.b = ((8 * q + k : Nat) : Int) := ⟨x.b.toNat / 8, x.b.toNat % 8, by omega, by omega, by omega⟩
        have HX := Aside0.mk (HSa.out.cell (0 : Int) q hq)
        have hxb := HBY.out _ (getD_mem (show q < (bytB0 x).length by rw [HLN.out]; exact hq))
        have HXB := Aside0.mk hxb
        have HSET := Aside0.mk (show (bytB0 x).set q (xorI ((bytB0 x).getD q 0) (2 ^ k)) = bytB x from by
          rw [HB1.out h0 h1]
          unfold flip1
          rw [hbit, HLN.out, if_pos (by omega), Int.toNat_natCast, show (8 * q + k) / 8 = q by omega, show (8 * q + k) % 8 = k by omega])
        have HSy := Aside0.mk (HSa.out.step (below_drew1 (Below.refl wx.heap.size wx)))
        generalize hx0e : (bytB0 x).getD q 0 = x0 at HX HXB HSET hxb
        generalize x.b = bit at *
        have hd : bit.tdiv 8 = (q : Int) := by rw [hbit, Int.tdiv_eq_ediv_of_nonneg (by omega)]; omega
        have hr : bit.tmod 8 = (k : Int) := by rw [hbit, Int.tmod_eq_emod_of_nonneg (by omega)]; omega
        have hk0 : (0 : Int) ≤ (k : Int) := by omega
        have hk1 : (k : Int) < 8 := by omega
        clear hbit
        go_upto_region 6 with (fail)
        have hx0 : wx.drew.cell? ⟨gb, q, none⟩ = some (.int .u8 x0) := by have := (HSy.out.cell (0 : Int) q hq).1; rwa [hx0e] at this
        have hf0 : wx.drew.frozen? ⟨gb, q, none⟩ = false := (HSy.out.cell (0 : Int) q hq).2
        clear hp0
        have hp0 : wx.drew.cell? ⟨gp, 106, none⟩ = some (.int .i64 bit) := (HBT.out _ _ _ HSy.out.up1).1
        have hq0 : (0 : Int) ≤ (q : Int) := by omega
        have hq1 : (q : Int) < 512 := by omega
        have hq2 : ((q : Int)).toNat = q := Int.toNat_natCast q
        have hwq : wrap64 (q : Int) = (q : Int) := by unfold wrap64; omega
        have hwk : IntKind.u8.wrap ((2 : Int) ^ k) = (2 : Int) ^ k := by
          rcases (show k = 0 ∨ k = 1 ∨ k = 2 ∨ k = 3 ∨ k = 4 ∨ k = 5 ∨ k = 6 ∨ k = 7 by omega) with rfl | rfl | rfl | rfl | rfl | rfl | rfl | rfl <;> rfl
        have hbx : bits .xor .u8 x0 ((2 : Int) ^ k) = xorI x0 (2 ^ k) := by
          have h2 : (0 : Int) ≤ 2 ^ k ∧ (2 : Int) ^ k < 256 ∧ ((2 : Int) ^ k).toNat = 2 ^ k := by
            rcases (show k = 0 ∨ k = 1 ∨ k = 2 ∨ k = 3 ∨ k = 4 ∨ k = 5 ∨ k = 6 ∨ k = 7 by omega) with rfl | rfl | rfl | rfl | rfl | rfl | rfl | rfl <;> decide
          rw [u8_xor x0 _ HXB.out.1 HXB.out.2 h2.1 h2.2.1, h2.2.2]
          rfl
        clear hx0e hxb HX HXB h0 h1
        refine start_ (n := 17) (S := fun W => W.cell? ⟨gb, q, none⟩ = some (.int .u8 x0) ∧ W.cell? ⟨gp, 106, none⟩ = some (.int .i64 bit)) (ds := [16]) (bb 17 0) (by kernel_rfl) rfl rfl (⟨hx0, hp0⟩) (fun hHeld => ?_); refine with_tabW by6_tab by6_bits (fun HT_ HW_ => ?_)
        generalize wx.drew = wd at hHeld HSy hx0 hf0 hp0 ⊢
        refine pure_ (i := 0) (N := (some 26)) (v := ?_) (a' := ?_) (bb 17 1) rfl rfl (any_of HT_.out (by kernel_rfl)) (fun _ _ _ h => h) (Or.inl ⟨by rfl, ?_⟩) ?_ ?_
        rotate_left
        · intro w'
          go_simp
          with_reducible rfl
        rotate_left
        · simp only [Act.put, List.setIfInBounds_toArray, List.set_cons_zero, List.set_cons_succ, i64_w, i32_w]
          rfl
        refine pure_ (i := 1) (N := (some 27)) (v := ?_) (a' := ?_) (bb 17 3) rfl rfl (any_of HT_.out (by kernel_rfl)) (fun _ _ _ h => h) (Or.inl ⟨by rfl, ?_⟩) ?_ ?_
        rotate_left
        · intro w'
          go_simp
          with_reducible rfl
        rotate_left
        · simp only [Act.put, List.setIfInBounds_toArray, List.set_cons_zero, List.set_cons_succ, i64_w, i32_w]
          rfl
        refine take_ (i := 2) (N := (some 28)) (v := ?_) (a' := ?_) (bb 17 7) rfl rfl (take_ofW HT_.out HW_.out (by kernel_rfl)) (fun _ _ _ h => h) (Or.inl ⟨by rfl, ?_⟩) hHeld ?_ ?_
        rotate_left
        · intro w' s0
          (try dsimp only at s0)
          go_simp
          with_reducible rfl
        rotate_left
        · simp only [Act.put, List.setIfInBounds_toArray, List.set_cons_zero, List.set_cons_succ, i64_w, i32_w]
          rfl
        refine pure_ (i := 3) (N := (some 29)) (v := ?_) (a' := ?_) (bb 17 15) rfl rfl (any_of HT_.out (by kernel_rfl)) (fun _ _ _ h => h) (Or.inl ⟨by rfl, ?_⟩) ?_ ?_
        rotate_left
        · intro w'
          go_simp
          with_reducible rfl
        rotate_left
        · simp only [Act.put, List.setIfInBounds_toArray, List.set_cons_zero, List.set_cons_succ, i64_w, i32_w]
          rfl
        refine pure_ (i := 4) (N := (some 30)) (v := ?_) (a' := ?_) (bb 17 31) rfl rfl (any_of HT_.out (by kernel_rfl)) (fun _ _ _ h => h) (Or.inl ⟨by rfl, ?_⟩) ?_ ?_
        rotate_left
        · intro w'
          go_simp
          with_reducible rfl
        rotate_left
        · simp only [Act.put, List.setIfInBounds_toArray, List.set_cons_zero, List.set_cons_succ, i64_w, i32_w]
          rfl
        refine pure_ (i := 5) (N := (some 31)) (v := ?_) (a' := ?_) (bb 17 63) rfl rfl (any_of HT_.out (by kernel_rfl)) (fun _ _ _ h => h) (Or.inl ⟨by rfl, ?_⟩) ?_ ?_
        rotate_left
        · intro w'
          go_simp
          with_reducible rfl
        rotate_left
        · simp only [Act.put, List.setIfInBounds_toArray, List.set_cons_zero, List.set_cons_succ, i64_w, i32_w]
          rfl
        refine take_ (i := 6) (N := (some 32)) (v := ?_) (a' := ?_) (bb 17 127) rfl rfl (take_ofW HT_.out HW_.out (by kernel_rfl)) (fun _ _ _ h => h) (Or.inl ⟨by rfl, ?_⟩) hHeld ?_ ?_
        rotate_left
        · intro w' s0
          (try dsimp only at s0)
          go_simp
          with_reducible rfl
        rotate_left
        · simp only [Act.put, List.setIfInBounds_toArray, List.set_cons_zero, List.set_cons_succ, i64_w, i32_w]
          rfl
        refine pure_ (i := 7) (N := (some 33)) (v := ?_) (a' := ?_) (bb 17 255) rfl rfl (any_of HT_.out (by kernel_rfl)) (fun _ _ _ h => h) (Or.inl ⟨by rfl, ?_⟩) ?_ ?_
        rotate_left
        · intro w'
          go_simp
          with_reducible rfl
        rotate_left
        · simp only [Act.put, List.setIfInBounds_toArray, List.set_cons_zero, List.set_cons_succ, i64_w, i32_w]
          rfl
        refine pure_ (i := 8) (N := (some 34)) (v := ?_) (a' := ?_) (bb 17 511) rfl rfl (any_of HT_.out (by kernel_rfl)) (fun _ _ _ h => h) (Or.inl ⟨by rfl, ?_⟩) ?_ ?_
        rotate_left
        · intro w'
          go_simp
          with_reducible rfl
        rotate_left
        · simp only [Act.put, List.setIfInBounds_toArray, List.set_cons_zero, List.set_cons_succ, i64_w, i32_w]
          rfl
        refine take_ (i := 9) (N := (some 35)) (v := ?_) (a' := ?_) (bb 17 1023) rfl rfl (take_ofW HT_.out HW_.out (by kernel_rfl)) (fun _ _ _ h => h) (Or.inl ⟨by rfl, ?_⟩) hHeld ?_ ?_
        rotate_left
        · intro w' s0
          (try dsimp only at s0)
          go_simp
          with_reducible rfl
        rotate_left
        · simp only [Act.put, List.setIfInBounds_toArray, List.set_cons_zero, List.set_cons_succ, i64_w, i32_w]
          rfl
        refine pure_ (i := 10) (N := (some 36)) (v := ?_) (a' := ?_) (bb 17 2047) rfl rfl (any_of HT_.out (by kernel_rfl)) (fun _ _ _ h => h) (Or.inl ⟨by rfl, ?_⟩) ?_ ?_
        rotate_left
        · intro w'
          go_simp
          with_reducible rfl
        rotate_left
        · simp only [Act.put, List.setIfInBounds_toArray, List.set_cons_zero, List.set_cons_succ, i64_w, i32_w]
          rfl
        refine take_ (i := 11) (N := (some 37)) (v := ?_) (a' := ?_) (bb 17 4095) rfl rfl (take_ofW HT_.out HW_.out (by kernel_rfl)) (fun _ _ _ h => h) (Or.inl ⟨by rfl, ?_⟩) hHeld ?_ ?_
        rotate_left
        · intro w' s0
          (try dsimp only at s0)
          go_simp
          with_reducible rfl
        rotate_left
        · simp only [Act.put, List.setIfInBounds_toArray, List.set_cons_zero, List.set_cons_succ, i64_w, i32_w]
          rfl
        refine pure_ (i := 12) (N := (some 38)) (v := ?_) (a' := ?_) (bb 17 8191) rfl rfl (any_of HT_.out (by kernel_rfl)) (fun _ _ _ h => h) (Or.inl ⟨by rfl, ?_⟩) ?_ ?_
        rotate_left
        · intro w'
          go_simp
          with_reducible rfl
        rotate_left
        · simp only [Act.put, List.setIfInBounds_toArray, List.set_cons_zero, List.set_cons_succ, i64_w, i32_w]
          rfl
        refine pure_ (i := 13) (N := (some 39)) (v := ?_) (a' := ?_) (bb 17 16383) rfl rfl (any_of HT_.out (by kernel_rfl)) (fun _ _ _ h => h) (Or.inl ⟨by rfl, ?_⟩) ?_ ?_
        rotate_left
        · intro w'
          go_simp
          with_reducible rfl
        rotate_left
        · simp only [Act.put, List.setIfInBounds_toArray, List.set_cons_zero, List.set_cons_succ, i64_w, i32_w]
          rfl
        refine pure_ (i := 14) (N := (some 40)) (v := ?_) (a' := ?_) (bb 17 32767) rfl rfl (any_of HT_.out (by kernel_rfl)) (fun _ _ _ h => h) (Or.inl ⟨by rfl, ?_⟩) ?_ ?_
        rotate_left
        · intro w'
          go_simp
          with_reducible rfl
        rotate_left
        · simp only [Act.put, List.setIfInBounds_toArray, List.set_cons_zero, List.set_cons_succ, i64_w, i32_w]
          rfl
        refine pure_ (i := 15) (N := (some 41)) (v := ?_) (a' := ?_) (bb 17 65535) rfl rfl (any_of HT_.out (by kernel_rfl)) (fun _ _ _ h => h) (Or.inl ⟨by rfl, ?_⟩) ?_ ?_
        rotate_left
        · intro w'
          go_simp
          with_reducible rfl
        rotate_left
        · simp only [Act.put, List.setIfInBounds_toArray, List.set_cons_zero, List.set_cons_succ, i64_w, i32_w]
          rfl
        refine last_ (i := 16) (N := none) (bb 17 131071) rfl rfl (one_of HT_.out (by kernel_rfl)) (by decide) (fun K hK => ?_)
        refine skip_ (w1 := ?_) (by rfl) rfl ?_ ?_
        rotate_left
        · go_simp
          first | rfl | (constructor <;> rfl)
        refine hK.out _ _ ?_
        clear hK K
        refine done_ (done_of HT_.out (by kernel_rfl)) ?_
        have HS6 := Aside0.mk (show Sep w0 (wd.setCell ⟨gb, q, none⟩ (.int .u8 (xorI x0 (2 ^ k)))) (ownT (Kd.int .u8) 5 (.slice (some ⟨gb, 0, none⟩) 512 c) (bytB x) :: cellsT gp PC 61 :: M) from by have h := HSy.out.put q (xorI x0 (2 ^ k)); rwa [HSET.out] at h)
        clear hHeld HT_ HW_ HSy hx0 hf0 hp0 hq0 hq1 hq2 hwq hwk hbx hd hr
        generalize wd.setCell ⟨gb, q, none⟩ (.int .u8 (xorI x0 (2 ^ k))) = w6 at HS6 ⊢
        go_wp2
        go_ret
        exact ⟨_, _, rfl, HCA.out, HS6.out.up1.drop⟩
      · skip
        go_wp2
        go_ret
        exact ⟨_, _, rfl, HCA.out, by rw [HB2.out (by omega)]; exact HSa.out.up1.drop⟩
    · skip
      go_wp2
      go_ret
      exact ⟨_, _, rfl, HCA.out, by rw [HB2.out (by omega)]; exact HSa.out.up1.drop⟩
  | false =>
    go_upto_region 3 with (first
      | ((with_reducible refine gate_load (ty := 27) rfl ?_); refine wpList_ldw ?_ 27 _ rfl ⟨gp, 1, none⟩ ?_ V _ (HSL.out _ _ _ HS0.out) Tryd.underlying27 rfl HSZ.out ?_; exact rfl; exact rfl; skip)
      | (go_at_call 13; (with_reducible refine (HEX.out hm _).mono ?_); rintro e w2 ⟨rfl, hb⟩; have HS2 := Aside0.mk (HS0.out.step hb); clear hb))
    go_upto_region 4 with (at_make; refine Kd.R_make (Kd.int .u8) (w0 := w2) w2.heap.size 5 rfl (N := 13) rfl 28 (.const (.int .i64 512)) (.const (.int .i64 512)) rfl (512 : Int) rfl rfl Tryd.underlying28 (.int .u8 0) 1 info_u8 rfl (by decide) (by decide) 0 (ok := fun _ => True) (okp := fun _ => True) rfl (fun _ h => h) trivial (by decide) (by decide) (Below.refl _ _) (Nat.le_refl _) ?_; intro v6 w6 hr hb hg hat; obtain ⟨A6, c6, e6⟩ := Kd.R_slice hr; have H6 := Aside0.mk hr; have HB6 := Aside0.mk hb; clear hr hb hg hat)
    have h6 := HS2.out.push_own H6.out HB6.out
    rw [show (512 : Int).toNat = 512 from rfl] at h6 e6
    rw [List.length_replicate] at e6
    subst e6
    have HS6 := Aside0.mk h6
    have H6' := Aside0.mk (show Kd.R (Kd.int .u8) 5 w6 w2.heap.size (fun _ => True) (.slice A6 512 c6) (List.replicate 512 0) from H6.out)
    have HCr := Aside0.mk (HRaw.out _ _ (Sub.c (Sub.c HSub.out)) HS6.out)
    have y7 := (HBT.out _ _ _ HS6.out.up1).2
    clear h6 H6 HS0
    go_upto_region 5 with ((with_reducible refine gate_builtin (b := .copy) (xs := #[.tmp 14, .tmp 16]) rfl ?_); refine Kd.R_copy (0 : Int) (w0 := w2) w2.heap.size rfl (.tmp 14) (.tmp 16) 28 28 5 rfl Tryd.underlying28 (by kernel_rfl) (.slice A6 512 c6) (List.replicate 512 0) x.raw A3 x.raw.length c3 (fun _ => True) rfl rfl H6'.out HCr.out HB6.out (below_size HB6.out) ?_; intro w9 hr hb hg; have H9 := Aside0.mk hr; have HB9 := Aside0.mk hb; clear hr hb hg)
    have h9 := HS2.out.push_own H9.out HB9.out
    rw [List.length_replicate] at h9
    rw [← HB0n.out hm] at h9
    have HSa := Aside0.mk h9
    clear h9 H9 HB9 HS6 H6' HCr HS2 HB6 y7
    obtain ⟨gb, rfl⟩ : ∃ gb, A6 = some ⟨gb, 0, none⟩ := by
      obtain ⟨_, _, hr⟩ := HSa.out.own
      obtain ⟨bw, cw, e2, _, _, _⟩ := Kd.R_form hr (by rw [HLN.out]; decide)
      simp only [Value.slice.injEq] at e2
      exact ⟨bw, e2.1⟩
    generalize w9 = wx at HSa ⊢
    have hp0 : wx.cell? ⟨gp, 106, none⟩ = some (.int .i64 x.b) := (HBT.out _ _ _ HSa.out.up1).1
    have HCA := Aside0.mk (show 512 ≤ c6 from by have := HSa.out.own_C.2; rwa [HLN.out] at this)
    by_cases h0 : 0 ≤ x.b
    · by_cases h1 : x.b < 4096
      · obtain ⟨q, k, hq, hk, hbit⟩ : ∃ q k : Nat, q < 512 ∧ k < 8 ∧ x.b = ((8 * q + k : Nat) : Int) := ⟨x.b.toNat / 8, x.b.toNat % 8, by omega, by omega, by omega⟩
        have HX := Aside0.mk (HSa.out.cell (0 : Int) q hq)
        have hxb := HBY.out _ (getD_mem (show q < (bytB0 x).length by rw [HLN.out]; exact hq))
        have HXB := Aside0.mk hxb
        have HSET := Aside0.mk (show (bytB0 x).set q (xorI ((bytB0 x).getD q 0) (2 ^ k)) = bytB x from by
          rw [HB1.out h0 h1]
          unfold flip1
          rw [hbit, HLN.out, if_pos (by omega), Int.toNat_natCast, show (8 * q + k) / 8 = q by omega, show (8 * q + k) % 8 = k by omega])
        have HSy := Aside0.mk (HSa.out.step (below_drew1 (Below.refl wx.heap.size wx)))
        generalize hx0e : (bytB0 x).getD q 0 = x0 at HX HXB HSET hxb
        generalize x.b = bit at *
        have hd : bit.tdiv 8 = (q : Int) := by rw [hbit, Int.tdiv_eq_ediv_of_nonneg (by omega)]; omega
        have hr : bit.tmod 8 = (k : Int) := by rw [hbit, Int.tmod_eq_emod_of_nonneg (by omega)]; omega
        have hk0 : (0 : Int) ≤ (k : Int) := by omega
        have hk1 : (k : Int) < 8 := by omega
        clear hbit
        go_upto_region 6 with (fail)
        have hx0 : wx.drew.cell? ⟨gb, q, none⟩ = some (.int .u8 x0) := by have := (HSy.out.cell (0 : Int) q hq).1; rwa [hx0e] at this
        have hf0 : wx.drew.frozen? ⟨gb, q, none⟩ = false := (HSy.out.cell (0 : Int) q hq).2
        clear hp0
        have hp0 : wx.drew.cell? ⟨gp, 106, none⟩ = some (.int .i64 bit) := (HBT.out _ _ _ HSy.out.up1).1
        have hq0 : (0 : Int) ≤ (q : Int) := by omega
        have hq1 : (q : Int) < 512 := by omega
        have hq2 : ((q : Int)).toNat = q := Int.toNat_natCast q
        have hwq : wrap64 (q : Int) = (q : Int) := by unfold wrap64; omega
        have hwk : IntKind.u8.wrap ((2 : Int) ^ k) = (2 : Int) ^ k := by
          rcases (show k = 0 ∨ k = 1 ∨ k = 2 ∨ k = 3 ∨ k = 4 ∨ k = 5 ∨ k = 6 ∨ k = 7 by omega) with rfl | rfl | rfl | rfl | rfl | rfl | rfl | rfl <;> rfl
        have hbx : bits .xor .u8 x0 ((2 : Int) ^ k) = xorI x0 (2 ^ k) := by
          have h2 : (0 : Int) ≤ 2 ^ k ∧ (2 : Int) ^ k < 256 ∧ ((2 : Int) ^ k).toNat = 2 ^ k := by
            rcases (show k = 0 ∨ k = 1 ∨ k = 2 ∨ k = 3 ∨ k = 4 ∨ k = 5 ∨ k = 6 ∨ k = 7 by omega) with rfl | rfl | rfl | rfl | rfl | rfl | rfl | rfl <;> decide
          rw [u8_xor x0 _ HXB.out.1 HXB.out.2 h2.1 h2.2.1, h2.2.2]
          rfl
        clear hx0e hxb HX HXB h0 h1
        refine start_ (n := 17) (S := fun W => W.cell? ⟨gb, q, none⟩ = some (.int .u8 x0) ∧ W.cell? ⟨gp, 106, none⟩ = some (.int .i64 bit)) (ds := [16]) (bb 17 0) (by kernel_rfl) rfl rfl (⟨hx0, hp0⟩) (fun hHeld => ?_); refine with_tabW by6_tab by6_bits (fun HT_ HW_ => ?_)
        generalize wx.drew = wd at hHeld HSy hx0 hf0 hp0 ⊢
        refine pure_ (i := 0) (N := (some 26)) (v := ?_) (a' := ?_) (bb 17 1) rfl rfl (any_of HT_.out (by kernel_rfl)) (fun _ _ _ h => h) (Or.inl ⟨by rfl, ?_⟩) ?_ ?_
        rotate_left
        · intro w'
          go_simp
          with_reducible rfl
        rotate_left
        · simp only [Act.put, List.setIfInBounds_toArray, List.set_cons_zero, List.set_cons_succ, i64_w, i32_w]
          rfl
        refine pure_ (i := 1) (N := (some 27)) (v := ?_) (a' := ?_) (bb 17 3) rfl rfl (any_of HT_.out (by kernel_rfl)) (fun _ _ _ h => h) (Or.inl ⟨by rfl, ?_⟩) ?_ ?_
        rotate_left
        · intro w'
          go_simp
          with_reducible rfl
        rotate_left
        · simp only [Act.put, List.setIfInBounds_toArray, List.set_cons_zero, List.set_cons_succ, i64_w, i32_w]
          rfl
        refine take_ (i := 2) (N := (some 28)) (v := ?_) (a' := ?_) (bb 17 7) rfl rfl (take_ofW HT_.out HW_.out (by kernel_rfl)) (fun _ _ _ h => h) (Or.inl ⟨by rfl, ?_⟩) hHeld ?_ ?_
        rotate_left
        · intro w' s0
          (try dsimp only at s0)
          go_simp
          with_reducible rfl
        rotate_left
        · simp only [Act.put, List.setIfInBounds_toArray, List.set_cons_zero, List.set_cons_succ, i64_w, i32_w]
          rfl
        refine pure_ (i := 3) (N := (some 29)) (v := ?_) (a' := ?_) (bb 17 15) rfl rfl (any_of HT_.out (by kernel_rfl)) (fun _ _ _ h => h) (Or.inl ⟨by rfl, ?_⟩) ?_ ?_
        rotate_left
        · intro w'
          go_simp
          with_reducible rfl
        rotate_left
        · simp only [Act.put, List.setIfInBounds_toArray, List.set_cons_zero, List.set_cons_succ, i64_w, i32_w]
          rfl
        refine pure_ (i := 4) (N := (some 30)) (v := ?_) (a' := ?_) (bb 17 31) rfl rfl (any_of HT_.out (by kernel_rfl)) (fun _ _ _ h => h) (Or.inl ⟨by rfl, ?_⟩) ?_ ?_
        rotate_left
        · intro w'
          go_simp
          with_reducible rfl
        rotate_left
        · simp only [Act.put, List.setIfInBounds_toArray, List.set_cons_zero, List.set_cons_succ, i64_w, i32_w]
          rfl
        refine pure_ (i := 5) (N := (some 31)) (v := ?_) (a' := ?_) (bb 17 63) rfl rfl (any_of HT_.out (by kernel_rfl)) (fun _ _ _ h => h) (Or.inl ⟨by rfl, ?_⟩) ?_ ?_
        rotate_left
        · intro w'
          go_simp
          with_reducible rfl
        rotate_left
        · simp only [Act.put, List.setIfInBounds_toArray, List.set_cons_zero, List.set_cons_succ, i64_w, i32_w]
          rfl
        refine take_ (i := 6) (N := (some 32)) (v := ?_) (a' := ?_) (bb 17 127) rfl rfl (take_ofW HT_.out HW_.out (by kernel_rfl)) (fun _ _ _ h => h) (Or.inl ⟨by rfl, ?_⟩) hHeld ?_ ?_
        rotate_left
        · intro w' s0
          (try dsimp only at s0)
          go_simp
          with_reducible rfl
        rotate_left
        · simp only [Act.put, List.setIfInBounds_toArray, List.set_cons_zero, List.set_cons_succ, i64_w, i32_w]
          rfl
        refine pure_ (i := 7) (N := (some 33)) (v := ?_) (a' := ?_) (bb 17 255) rfl rfl (any_of HT_.out (by kernel_rfl)) (fun _ _ _ h => h) (Or.inl ⟨by rfl, ?_⟩) ?_ ?_
        rotate_left
        · intro w'
          go_simp
          with_reducible rfl
        rotate_left
        · simp only [Act.put, List.setIfInBounds_toArray, List.set_cons_zero, List.set_cons_succ, i64_w, i32_w]
          rfl
        refine pure_ (i := 8) (N := (some 34)) (v := ?_) (a' := ?_) (bb 17 511) rfl rfl (any_of HT_.out (by kernel_rfl)) (fun _ _ _ h => h) (Or.inl ⟨by rfl, ?_⟩) ?_ ?_
        rotate_left
        · intro w'
          go_simp
          with_reducible rfl
        rotate_left
        · simp only [Act.put, List.setIfInBounds_toArray, List.set_cons_zero, List.set_cons_succ, i64_w, i32_w]
          rfl
        refine take_ (i := 9) (N := (some 35)) (v := ?_) (a' := ?_) (bb 17 1023) rfl rfl (take_ofW HT_.out HW_.out (by kernel_rfl)) (fun _ _ _ h => h) (Or.inl ⟨by rfl, ?_⟩) hHeld ?_ ?_
        rotate_left
        · intro w' s0
          (try dsimp only at s0)
          go_simp
          with_reducible rfl
        rotate_left
        · simp only [Act.put, List.setIfInBounds_toArray, List.set_cons_zero, List.set_cons_succ, i64_w, i32_w]
          rfl
        refine pure_ (i := 10) (N := (some 36)) (v := ?_) (a' := ?_) (bb 17 2047) rfl rfl (any_of HT_.out (by kernel_rfl)) (fun _ _ _ h => h) (Or.inl ⟨by rfl, ?_⟩) ?_ ?_
        rotate_left
        · intro w'
          go_simp
          with_reducible rfl
        rotate_left
        · simp only [Act.put, List.setIfInBounds_toArray, List.set_cons_zero, List.set_cons_succ, i64_w, i32_w]
          rfl
        refine take_ (i := 11) (N := (some 37)) (v := ?_) (a' := ?_) (bb 17 4095) rfl rfl (take_ofW HT_.out HW_.out (by kernel_rfl)) (fun _ _ _ h => h) (Or.inl ⟨by rfl, ?_⟩) hHeld ?_ ?_
        rotate_left
        · intro w' s0
          (try dsimp only at s0)
          go_simp
          with_reducible rfl
        rotate_left
        · simp only [Act.put, List.setIfInBounds_toArray, List.set_cons_zero, List.set_cons_succ, i64_w, i32_w]
          rfl
        refine pure_ (i := 12) (N := (some 38)) (v := ?_) (a' := ?_) (bb 17 8191) rfl rfl (any_of HT_.out (by kernel_rfl)) (fun _ _ _ h => h) (Or.inl ⟨by rfl, ?_⟩) ?_ ?_
        rotate_left
        · intro w'
          go_simp
          with_reducible rfl
        rotate_left
        · simp only [Act.put, List.setIfInBounds_toArray, List.set_cons_zero, List.set_cons_succ, i64_w, i32_w]
          rfl
        refine pure_ (i := 13) (N := (some 39)) (v := ?_) (a' := ?_) (bb 17 16383) rfl rfl (any_of HT_.out (by kernel_rfl)) (fun _ _ _ h => h) (Or.inl ⟨by rfl, ?_⟩) ?_ ?_
        rotate_left
        · intro w'
          go_simp
          with_reducible rfl
        rotate_left
        · simp only [Act.put, List.setIfInBounds_toArray, List.set_cons_zero, List.set_cons_succ, i64_w, i32_w]
          rfl
        refine pure_ (i := 14) (N := (some 40)) (v := ?_) (a' := ?_) (bb 17 32767) rfl rfl (any_of HT_.out (by kernel_rfl)) (fun _ _ _ h => h) (Or.inl ⟨by rfl, ?_⟩) ?_ ?_
        rotate_left
        · intro w'
          go_simp
          with_reducible rfl
        rotate_left
        · simp only [Act.put, List.setIfInBounds_toArray, List.set_cons_zero, List.set_cons_succ, i64_w, i32_w]
          rfl
        refine pure_ (i := 15) (N := (some 41)) (v := ?_) (a' := ?_) (bb 17 65535) rfl rfl (any_of HT_.out (by kernel_rfl)) (fun _ _ _ h => h) (Or.inl ⟨by rfl, ?_⟩) ?_ ?_
        rotate_left
        · intro w'
          go_simp
          with_reducible rfl
        rotate_left
        · simp only [Act.put, List.setIfInBounds_toArray, List.set_cons_zero, List.set_cons_succ, i64_w, i32_w]
          rfl
        refine last_ (i := 16) (N := none) (bb 17 131071) rfl rfl (one_of HT_.out (by kernel_rfl)) (by decide) (fun K hK => ?_)
        refine skip_ (w1 := ?_) (by rfl) rfl ?_ ?_
        rotate_left
        · go_simp
          first | rfl | (constructor <;> rfl)
        refine hK.out _ _ ?_
        clear hK K
        refine done_ (done_of HT_.out (by kernel_rfl)) ?_
        have HS6 := Aside0.mk (show Sep w0 (wd.setCell ⟨gb, q, none⟩ (.int .u8 (xorI x0 (2 ^ k)))) (ownT (Kd.int .u8) 5 (.slice (some ⟨gb, 0, none⟩) 512 c6) (bytB x) :: cellsT gp PC 61 :: M) from by have h := HSy.out.put q (xorI x0 (2 ^ k)); rwa [HSET.out] at h)
        clear hHeld HT_ HW_ HSy hx0 hf0 hp0 hq0 hq1 hq2 hwq hwk hbx hd hr
        generalize wd.setCell ⟨gb, q, none⟩ (.int .u8 (xorI x0 (2 ^ k))) = w6 at HS6 ⊢
        go_wp2
        go_ret
        exact ⟨_, _, rfl, HCA.out, HS6.out.up1.drop⟩
      · skip
        go_wp2
        go_ret
        exact ⟨_, _, rfl, HCA.out, by rw [HB2.out (by omega)]; exact HSa.out.up1.drop⟩
    · skip
      go_wp2
      go_ret
      exact ⟨_, _, rfl, HCA.out, by rw [HB2.out (by omega)]; exact HSa.out.up1.drop⟩
end Go.Proofs.YtaflofcnjakaaaaDoor.M

namespace Go.Proofs.YtaflofcnjakaaaaDoor.M
open Go.RowKit Go.Maps Go.Proofs.YtaflofcnjakaaaaDoorW.PrintWords Go.Proofs.YtaflofcnjakaaaaDoorW.PrintLast Go.Proofs.YtaflofcnjakaaaaDoorW.PrintMore Go.Proofs.YtaflofcnjakaaaaDoor.Wr Go.Proofs.YtaflofcnjakaaaaDoor.Pl Go.Proofs.YtaflofcnjakaaaaDoor.Z Go.Proofs.YtaflofcnjakaaaaDoor.A
set_option linter.unusedVariables false
set_option linter.unusedSimpArgs false
theorem ref_new_f (n : Nat) (h2 : 2 ≤ n) (hm : n ≤ 65536) : kilnref3_New.f (n : Int) = some ((n : Int), [], [], 0, 0, 0, 0) := by
  unfold kilnref3_New.f
  rw [if_neg (by omega), if_neg (by omega)]
theorem ref_new_no (a : Int) (h : a < 2 ∨ 65536 < a) : kilnref3_New.f a = some (0, [], [], 0, 0, 0, 30) := by
  unfold kilnref3_New.f
  by_cases e : a < 2
  · rw [if_pos e]
  · rw [if_neg e, if_pos (by omega)]
theorem rf_held {w0 W : World} {L : List Th} {gp : Nat} {a0 a1 a2 a3 a4 a5 : Value} (h : Sep w0 W (cellsT gp #[a0, a1, a2, a3, a4, a5] 43 :: L)) :
    W.cell? ⟨gp, 0, none⟩ = some a0 ∧ W.cell? ⟨gp, 1, none⟩ = some a1 ∧ W.cell? ⟨gp, 2, none⟩ = some a2 ∧ W.cell? ⟨gp, 3, none⟩ = some a3 ∧ W.cell? ⟨gp, 4, none⟩ = some a4 ∧ W.cell? ⟨gp, 5, none⟩ = some a5 :=
  ⟨blk_cell h.cells.1 0, blk_cell h.cells.1 1, blk_cell h.cells.1 2, blk_cell h.cells.1 3, blk_cell h.cells.1 4, blk_cell h.cells.1 5⟩
end Go.Proofs.YtaflofcnjakaaaaDoor.M

namespace Go.Proofs.YtaflofcnjakaaaaDoor.M
open Go.RowKit Go.Maps Go.Proofs.YtaflofcnjakaaaaDoorW.PrintWords Go.Proofs.YtaflofcnjakaaaaDoorW.PrintLast Go.Proofs.YtaflofcnjakaaaaDoorW.PrintMore Go.Proofs.YtaflofcnjakaaaaDoor.Wr Go.Proofs.YtaflofcnjakaaaaDoor.Pl Go.Proofs.YtaflofcnjakaaaaDoor.Z Go.Proofs.YtaflofcnjakaaaaDoor.A
set_option linter.unusedVariables false
set_option linter.unusedSimpArgs false
def soz_T : Bool × List (List Nat × List Nat) := (true, [([], []), ([], []), ([1], [1]), ([2], [2]), ([3], [3]), ([4, 3], [3, 4]), ([3], [3]), ([6, 3], [3, 6]), ([5, 7, 3], [3, 5, 7]), ([3, 8], [3, 8]), ([9, 3], [9]), ([10], [10]), ([11, 10], [10, 11]), ([12, 10], [10, 12]), ([10], [10]), ([13, 14, 10], [10, 13, 14]), ([10, 15], [10, 15]), ([0, 10, 0], [0]), ([16, 17, 0, 1, 2, 3, 4, 5, 6, 7, 8, 9, 10, 11, 12, 13, 14, 15, 16, 17], [16])])
def soz_B : List Nat := [0, 0, 2, 6, 14, 30, 14, 78, 254, 510, 1022, 2046, 4094, 8190, 2046, 32766, 65534, 2047, 262143]
theorem soz_tab : rtab .any (opsOf Tryd.f53 2) = soz_T := by kernel_rfl
theorem soz_bits : waitsOk soz_T.2 soz_B = true := by kernel_rfl
def soy_T : Bool × List (List Nat × List Nat) := (true, [([], []), ([], []), ([1], [1]), ([2], [2]), ([3], [3]), ([4, 3], [3, 4]), ([3], [3]), ([6, 3], [3, 6]), ([5, 7, 3], [3, 5, 7]), ([3, 8], [3, 8]), ([9, 3], [9]), ([10], [10]), ([11, 10], [10, 11]), ([12, 10], [10, 12]), ([10], [10]), ([13, 14, 10], [10, 13, 14]), ([10, 15], [10, 15]), ([0, 10, 0], [0]), ([16, 17, 0, 1, 2, 3, 4, 5, 6, 7, 8, 9, 10, 11, 12, 13, 14, 15, 16, 17], [16])])
def soy_B : List Nat := [0, 0, 2, 6, 14, 30, 14, 78, 254, 510, 1022, 2046, 4094, 8190, 2046, 32766, 65534, 2047, 262143]
theorem soy_tab : rtab .any (opsOf Tryd.f53 2) = soy_T := by kernel_rfl
theorem soy_bits : waitsOk soy_T.2 soy_B = true := by kernel_rfl
def sox_T : Bool × List (List Nat × List Nat) := (true, [([], []), ([], []), ([1], [1]), ([2], [2]), ([3], [3]), ([4, 3], [3, 4]), ([3], [3]), ([6, 3], [3, 6]), ([5, 7, 3], [3, 5, 7]), ([3, 8], [3, 8]), ([9, 3], [9]), ([10], [10]), ([11, 10], [10, 11]), ([12, 10], [10, 12]), ([10], [10]), ([13, 14, 10], [10, 13, 14]), ([10, 15], [10, 15]), ([0, 10, 0], [0]), ([16, 17, 0, 1, 2, 3, 4, 5, 6, 7, 8, 9, 10, 11, 12, 13, 14, 15, 16, 17], [16])])
def sox_B : List Nat := [0, 0, 2, 6, 14, 30, 14, 78, 254, 510, 1022, 2046, 4094, 8190, 2046, 32766, 65534, 2047, 262143]
theorem sox_tab : rtab .any (opsOf Tryd.f53 2) = sox_T := by kernel_rfl
theorem sox_bits : waitsOk sox_T.2 sox_B = true := by kernel_rfl
theorem Sep.now18 {w0 w : World} {M : List Th} {A1 A2 : Option Addr} {c1 c2 p q : Nat} {l1 l2 : List S106} {D : DS} {n i : Nat} {r wr fl : Int} (h : Sep w0 w (refT (.slice A1 p c1) (.slice A2 q c2) l1 l2 :: M)) (hR : Rl D l1 l2) (hn : D.n = n) (hp : l1.length = p) (hq : l2.length = q) (hl : p + q ≤ 1000) (hi : i < n) (hc : (D.cur i).length = 512) :
    Calls Tryd.prog 70 #[.agg #[.int .i64 (n : Int), .slice A1 p c1, .slice A2 q c2, .int .i64 r, .int .i64 wr, .int .i64 fl], .int .i64 (i : Int)] w fun e w' => ∃ A c, e = .returned (.slice A 512 c) ∧ 512 ≤ c ∧ Sep w0 w' (ownT (Kd.int .u8) 5 (.slice A 512 c) (D.cur i) :: refT (.slice A1 p c1) (.slice A2 q c2) l1 l2 :: M) := by
  subst hp hq
  have hnow := hR.now i (by rw [hn]; exact hi)
  have hf := now_ev l1 l2 (i : Int) (n : Int) r wr fl (by omega) (by omega) hR.sho (by rw [lastR_len hR.e1]; decide) _ (Nat.le_refl _)
  refine (kilnref3_Now.calls _ (n : Int) A1 c1 l1 A2 c2 l2 r wr fl (i : Int) (nowR l1 l2 (i : Int)) w h.ref_C.1 h.ref_C.2.1 h.ref_C.2.2.1 h.ref_C.2.2.2 hf).mono ?_
  rintro e w' ⟨v, rfl, hr, hb⟩
  rw [hnow] at hr
  obtain ⟨A, c, rfl⟩ := Kd.R_slice hr
  rw [hc] at hr ⊢
  exact ⟨A, c, rfl, (Kd.R_reads' hr).2.1, h.push_own hr hb⟩
def soundM (N i : Int) (b : List Int) : Bool := decide (decE b = 0) && (decide ((decS b).a = N) && decide ((decS b).c.tmod 2 = i))
set_option maxHeartbeats 8000000 in
set_option maxRecDepth 100000 in
theorem Sep.sound {w0 w : World} {M : List Th} {A1 A2 : Option Addr} {c1 c2 p q : Nat} {l1 l2 : List S106} {D : DS} {n i : Nat} {r wr fl : Int} (h : Sep w0 w (refT (.slice A1 p c1) (.slice A2 q c2) l1 l2 :: M)) (hR : Rl D l1 l2) (hn : D.n = n) (hp : l1.length = p) (hq : l2.length = q) (hl : p + q ≤ 1000) (hi : i < n) (hc : (D.cur i).length = 512) (hb : bytes_ (D.cur i)) :
    Calls Tryd.prog 53 #[.agg #[.int .i64 (n : Int), .slice A1 p c1, .slice A2 q c2, .int .i64 r, .int .i64 wr, .int .i64 fl], .int .i64 (i : Int)] w fun e w' => e = .returned (.tuple #[.agg (decS (D.cur i)).V.toArray, .bool (soundM (n : Int) (i : Int) (D.cur i))]) ∧ Sep w0 w' (refT (.slice A1 p c1) (.slice A2 q c2) l1 l2 :: M) := by
  have HNO := Aside0.mk (fun W (N : List Th) (h : Sep w0 W (refT (.slice A1 p c1) (.slice A2 q c2) l1 l2 :: N)) => Sep.now18 (r := r) (wr := wr) (fl := fl) h hR hn hp hq hl hi hc)
  have HDC := Aside0.mk (fun W (N : List Th) A c (hc2 : 512 ≤ c) (h : Sep w0 W (ownT (Kd.int .u8) 5 (.slice A 512 c) (D.cur i) :: N)) => (show Calls Tryd.prog 45 #[.slice A 512 c] W (fun e w' => e = .returned (.tuple #[.agg (decS (D.cur i)).V.toArray, .int .i64 (decE (D.cur i))]) ∧ Sep w0 w' (ownT (Kd.int .u8) 5 (.slice A 512 c) (D.cur i) :: N)) from Sep.decodeR h (Sub.r _) (ReadsB.own hc) hb hc hc2))
  have hok := decS_ok hb
  have HS0 := Aside0.mk (h.push_alloc #[.int .i64 (n : Int), .slice A1 p c1, .slice A2 q c2, .int .i64 r, .int .i64 wr, .int .i64 fl] 43)
  have HSZ := Aside0.mk (SlAt.sa hok)
  have HVA := Aside0.mk (SL.V_all (decS (D.cur i)))
  have hz := (zero_of_info (P := Tryd.prog) (t := 27) (v := .agg noSL.V.toArray) (n := 105) (by kernel_rfl)).1
  have HZV := Aside0.mk (show noSL.V.toArray.size = (decS (D.cur i)).V.toArray.size from by simp only [List.size_toArray]; rw [SL.V_len noSL_ok, SL.V_len hok])
  have HLV := Aside0.mk (fun W (M : List Th) g (h : Sep w0 W (cellsT g (decS (D.cur i)).V.toArray 27 :: M)) => (show ∀ j v, (decS (D.cur i)).V.toArray.toList[j]? = some v → W.cell? ((⟨g, 0, none⟩ : Addr).add j) = some v from fun j v hv => seg_at h.cells.1 0 (decS (D.cur i)).V (by rw [List.drop_zero]; exact List.take_of_length_le (Nat.le_refl _)) j v (by simpa using hv)))
  have HLF := Aside0.mk (fun W (M : List Th) g (h : Sep w0 W (cellsT g (decS (D.cur i)).V.toArray 27 :: M)) => (show W.cell? ⟨g, 0, none⟩ = some (.int .i64 (decS (D.cur i)).a) ∧ W.cell? ⟨g, 2, none⟩ = some (.int .i64 (decS (D.cur i)).c) from
    have k := SlAt.mk h.cells.1 hok; ⟨k.c0, k.c2⟩))
  have HSM := Aside0.mk (show soundM (n : Int) (i : Int) (D.cur i) = (decide (decE (D.cur i) = 0) && (decide ((decS (D.cur i)).a = (n : Int)) && decide ((decS (D.cur i)).c.tmod 2 = (i : Int)))) from rfl)
  have HEO := Aside0.mk (decE_or (D.cur i))
  clear h hR hn hp hq hl hi hc hb hok
  generalize soundM (n : Int) (i : Int) (D.cur i) = sm at HSM ⊢
  generalize decE (D.cur i) = ec at HDC HSM HEO
  generalize D.cur i = b at *
  generalize decS b = s at *
  generalize s.V.toArray = V at HDC HSZ HVA HZV HLV HLF ⊢
  generalize noSL.V.toArray = Z at hz HZV
  go_enter Tryd.func53, Tryd.ntmps53
  go_upto_region 1 with (fail)
  have HS1 := Aside0.mk (HS0.out.push_alloc Z 27)
  have hsz : (w.alloc (.cells #[.int .i64 (n : Int), .slice A1 p c1, .slice A2 q c2, .int .i64 r, .int .i64 wr, .int .i64 fl] 43)).heap.size = w.heap.size + 1 := by show (w.heap.push _).size = _; simp
  rw [hsz] at HS1
  generalize (w.alloc (.cells #[.int .i64 (n : Int), .slice A1 p c1, .slice A2 q c2, .int .i64 r, .int .i64 wr, .int .i64 fl] 43)).alloc (.cells Z 27) = w2 at HS1 ⊢
  generalize hg4 : w.heap.size + 1 = g4 at HS1 ⊢
  generalize w.heap.size = gs at HS1 ⊢
  clear HS0 hsz hg4
  obtain ⟨y0, y1, y2, y3, y4, y5⟩ := rf_held HS1.out.up1
  go_upto_region 2 with (first
    | (go_at_call 70; (with_reducible refine (HNO.out _ _ HS1.out.up2).mono ?_); rintro e w3 ⟨Ab, cb, rfl, hcb, h3⟩; have HCB := Aside0.mk hcb; have HS3 := Aside0.mk h3; clear h3 hcb)
    | (go_at_call 45; (with_reducible refine (HDC.out _ _ _ _ HCB.out HS3.out).mono ?_); rintro e w4 ⟨rfl, h4⟩; have HS4 := Aside0.mk h4.drop; clear h4)
    | ((with_reducible refine gate_store (ty := 27) rfl ?_); refine Sep.store_own rfl 27 _ _ rfl rfl rfl (HS4.out.push_alloc Z 27) HSZ.out HZV.out HVA.out ?_; intro wx h5; have HSx := Aside0.mk h5; clear h5))
  generalize w4.heap.size = g6 at HSx ⊢
  clear HS1 HS3 HS4 HNO HDC HCB y0 y1 y2 y3 y4 y5
  have HSy := Aside0.mk (HSx.out.step (below_drew1 (Below.refl wx.heap.size wx)))
  clear HSx
  have HHS := Aside0.mk (fun W cs4 (h : Sep w0 W (cellsT g6 V 27 :: refT (.slice A1 p c1) (.slice A2 q c2) l1 l2 :: cellsT g4 cs4 27 :: cellsT gs #[.int .i64 (n : Int), .slice A1 p c1, .slice A2 q c2, .int .i64 r, .int .i64 wr, .int .i64 fl] 43 :: M)) => (show W.cell? ⟨g6, 0, none⟩ = some (.int .i64 s.a) ∧ W.cell? ⟨g6, 2, none⟩ = some (.int .i64 s.c) ∧ W.cell? ⟨gs, 0, none⟩ = some (.int .i64 (n : Int)) ∧ (∀ j v, V.toList[j]? = some v → W.cell? ((⟨g6, 0, none⟩ : Addr).add j) = some v) from ⟨(HLF.out _ _ _ h).1, (HLF.out _ _ _ h).2, blk_cell h.up3.cells.1 0, HLV.out _ _ _ h⟩))
  clear HLF HLV
  rcases HEO.out with rfl | rfl
  · by_cases ha : s.a = (n : Int)
    · have ta : (s.a == (n : Int)) = true := by simpa using ha
      refine start_ (n := 19) (S := fun W => W.cell? ⟨g6, 0, none⟩ = some (.int .i64 s.a) ∧ W.cell? ⟨g6, 2, none⟩ = some (.int .i64 s.c) ∧ W.cell? ⟨gs, 0, none⟩ = some (.int .i64 (n : Int)) ∧ (∀ j v, V.toList[j]? = some v → W.cell? ((⟨g6, 0, none⟩ : Addr).add j) = some v)) (ds := []) (bb 19 0) (by kernel_rfl) rfl rfl (HHS.out _ _ HSy.out) (fun hHeld => ?_); refine with_tabW soz_tab soz_bits (fun HT_ HW_ => ?_)
      generalize wx.drew = wd at hHeld HSy ⊢
      refine take_ (i := 0) (N := (some 15)) (v := .agg V) (a' := ?_) (bb 19 1) rfl rfl (take_ofW HT_.out HW_.out (by kernel_rfl)) (fun _ _ _ h => h) (Or.inl ⟨by rfl, fun w' s0 => yields_ld 27 _ rfl ⟨g6, 0, none⟩ rfl V _ s0.2.2.2 Tryd.underlying27 rfl HSZ.out⟩) hHeld ?_ ?_
      rotate_left
      · simp only [Act.put, List.setIfInBounds_toArray, List.set_cons_zero, List.set_cons_succ, i64_w, i32_w]
        rfl
      refine pure_ (i := 1) (N := (some 16)) (v := ?_) (a' := ?_) (bb 19 3) rfl rfl (any_of HT_.out (by kernel_rfl)) (fun _ _ _ h => h) (Or.inl ⟨by rfl, ?_⟩) ?_ ?_
      rotate_left
      · intro w'
        go_simp
        with_reducible rfl
      rotate_left
      · simp only [Act.put, List.setIfInBounds_toArray, List.set_cons_zero, List.set_cons_succ, i64_w, i32_w]
        rfl
      refine pure_ (i := 2) (N := (some 17)) (v := ?_) (a' := ?_) (bb 19 7) rfl rfl (any_of HT_.out (by kernel_rfl)) (fun _ _ _ h => h) (Or.inl ⟨by rfl, ?_⟩) ?_ ?_
      rotate_left
      · intro w'
        go_simp
        with_reducible rfl
      rotate_left
      · simp only [Act.put, List.setIfInBounds_toArray, List.set_cons_zero, List.set_cons_succ, i64_w, i32_w]
        rfl
      refine pure_ (i := 3) (N := (some 18)) (v := ?_) (a' := ?_) (bb 19 15) rfl rfl (any_of HT_.out (by kernel_rfl)) (fun _ _ _ h => h) (Or.inl ⟨by rfl, ?_⟩) ?_ ?_
      rotate_left
      · intro w'
        go_simp
        with_reducible rfl
      rotate_left
      · simp only [Act.put, List.setIfInBounds_toArray, List.set_cons_zero, List.set_cons_succ, i64_w, i32_w]
        rfl
      refine pure_ (i := 4) (N := (some 19)) (v := ?_) (a' := ?_) (bb 19 31) rfl rfl (any_of HT_.out (by kernel_rfl)) (fun _ _ _ h => h) (Or.inl ⟨by rfl, ?_⟩) ?_ ?_
      rotate_left
      · intro w'
        go_simp
        with_reducible rfl
      rotate_left
      · simp only [Act.put, List.setIfInBounds_toArray, List.set_cons_zero, List.set_cons_succ, i64_w, i32_w]
        rfl
      refine take_ (i := 5) (N := (some 20)) (v := ?_) (a' := ?_) (bb 19 63) rfl rfl (take_ofW HT_.out HW_.out (by kernel_rfl)) (fun _ _ _ h => h) (Or.inl ⟨by rfl, ?_⟩) hHeld ?_ ?_
      rotate_left
      · intro w' s0
        (try dsimp only at s0)
        go_simp
        with_reducible rfl
      rotate_left
      · simp only [Act.put, List.setIfInBounds_toArray, List.set_cons_zero, List.set_cons_succ, i64_w, i32_w]
        rfl
      refine pure_ (i := 6) (N := (some 21)) (v := ?_) (a' := ?_) (bb 19 127) rfl rfl (any_of HT_.out (by kernel_rfl)) (fun _ _ _ h => h) (Or.inl ⟨by rfl, ?_⟩) ?_ ?_
      rotate_left
      · intro w'
        go_simp
        with_reducible rfl
      rotate_left
      · simp only [Act.put, List.setIfInBounds_toArray, List.set_cons_zero, List.set_cons_succ, i64_w, i32_w]
        rfl
      refine take_ (i := 7) (N := (some 22)) (v := ?_) (a' := ?_) (bb 19 255) rfl rfl (take_ofW HT_.out HW_.out (by kernel_rfl)) (fun _ _ _ h => h) (Or.inl ⟨by rfl, ?_⟩) hHeld ?_ ?_
      rotate_left
      · intro w' s0
        (try dsimp only at s0)
        go_simp
        with_reducible rfl
      rotate_left
      · simp only [Act.put, List.setIfInBounds_toArray, List.set_cons_zero, List.set_cons_succ, i64_w, i32_w]
        rfl
      refine pure_ (i := 8) (N := (some 23)) (v := ?_) (a' := ?_) (bb 19 511) rfl rfl (any_of HT_.out (by kernel_rfl)) (fun _ _ _ h => h) (Or.inl ⟨by rfl, ?_⟩) ?_ ?_
      rotate_left
      · intro w'
        go_simp
        with_reducible rfl
      rotate_left
      · simp only [Act.put, List.setIfInBounds_toArray, List.set_cons_zero, List.set_cons_succ, i64_w, i32_w]
        rfl
      refine pure_ (i := 9) (N := (some 24)) (v := ?_) (a' := ?_) (bb 19 1023) rfl rfl (any_of HT_.out (by kernel_rfl)) (fun _ _ _ h => h) (Or.inl ⟨by rfl, ?_⟩) ?_ ?_
      rotate_left
      · intro w'
        go_simp
        with_reducible rfl
      rotate_left
      · simp only [Act.put, List.setIfInBounds_toArray, List.set_cons_zero, List.set_cons_succ, i64_w, i32_w]
        rfl
      refine pure_ (i := 10) (N := (some 25)) (v := ?_) (a' := ?_) (bb 19 2047) rfl rfl (any_of HT_.out (by kernel_rfl)) (fun _ _ _ h => h) (Or.inl ⟨by rfl, ?_⟩) ?_ ?_
      rotate_left
      · intro w'
        go_simp
        with_reducible rfl
      rotate_left
      · simp only [Act.put, List.setIfInBounds_toArray, List.set_cons_zero, List.set_cons_succ, i64_w, i32_w]
        rfl
      refine pure_ (i := 11) (N := (some 26)) (v := ?_) (a' := ?_) (bb 19 4095) rfl rfl (any_of HT_.out (by kernel_rfl)) (fun _ _ _ h => h) (Or.inl ⟨by rfl, ?_⟩) ?_ ?_
      rotate_left
      · intro w'
        go_simp
        with_reducible rfl
      rotate_left
      · simp only [Act.put, List.setIfInBounds_toArray, List.set_cons_zero, List.set_cons_succ, i64_w, i32_w]
        rfl
      refine take_ (i := 12) (N := (some 27)) (v := ?_) (a' := ?_) (bb 19 8191) rfl rfl (take_ofW HT_.out HW_.out (by kernel_rfl)) (fun _ _ _ h => h) (Or.inl ⟨by rfl, ?_⟩) hHeld ?_ ?_
      rotate_left
      · intro w' s0
        (try dsimp only at s0)
        go_simp
        with_reducible rfl
      rotate_left
      · simp only [Act.put, List.setIfInBounds_toArray, List.set_cons_zero, List.set_cons_succ, i64_w, i32_w]
        rfl
      refine pure_ (i := 13) (N := (some 28)) (v := ?_) (a' := ?_) (bb 19 16383) rfl rfl (any_of HT_.out (by kernel_rfl)) (fun _ _ _ h => h) (Or.inl ⟨by rfl, ?_⟩) ?_ ?_
      rotate_left
      · intro w'
        go_simp
        with_reducible rfl
      rotate_left
      · simp only [Act.put, List.setIfInBounds_toArray, List.set_cons_zero, List.set_cons_succ, i64_w, i32_w]
        rfl
      refine pure_ (i := 14) (N := (some 29)) (v := ?_) (a' := ?_) (bb 19 32767) rfl rfl (any_of HT_.out (by kernel_rfl)) (fun _ _ _ h => h) (Or.inl ⟨by rfl, ?_⟩) ?_ ?_
      rotate_left
      · intro w'
        go_simp
        with_reducible rfl
      rotate_left
      · simp only [Act.put, List.setIfInBounds_toArray, List.set_cons_zero, List.set_cons_succ, i64_w, i32_w]
        rfl
      refine pure_ (i := 15) (N := (some 30)) (v := ?_) (a' := ?_) (bb 19 65535) rfl rfl (any_of HT_.out (by kernel_rfl)) (fun _ _ _ h => h) (Or.inl ⟨by rfl, ?_⟩) ?_ ?_
      rotate_left
      · intro w'
        go_simp
        with_reducible rfl
      rotate_left
      · simp only [Act.put, List.setIfInBounds_toArray, List.set_cons_zero, List.set_cons_succ, i64_w, i32_w]
        rfl
      refine pure_ (i := 16) (N := (some 31)) (v := ?_) (a' := ?_) (bb 19 131071) rfl rfl (any_of HT_.out (by kernel_rfl)) (fun _ _ _ h => h) (Or.inl ⟨by rfl, ?_⟩) ?_ ?_
      rotate_left
      · intro w'
        go_simp
        with_reducible rfl
      rotate_left
      · simp only [Act.put, List.setIfInBounds_toArray, List.set_cons_zero, List.set_cons_succ, i64_w, i32_w]
        rfl
      refine one_ (i := 17) (N := none) (bb 19 262143) rfl rfl (one_of HT_.out (by kernel_rfl)) (by decide) (fun K hK => ?_)
      rw [if_pos (by rfl)]
      refine Sep.store_wp 27 _ _ rfl rfl rfl HSy.out.up2 HSZ.out HZV.out HVA.out (fun w4 h4 => ?_)
      have HS4 := Aside0.mk h4
      clear h4
      refine hK.out _ _ (HHS.out _ _ HS4.out.down2) (fun hHeld => ?_)
      clear hK K
      refine norm_ (a' := ?_) ?_ ?_
      rotate_left
      · show Act.put _ none _ = _
        simp only [Act.put, List.setIfInBounds_toArray, List.set_cons_zero, List.set_cons_succ, i64_w, i32_w]
        rfl
      refine pure_ (i := 18) (N := (some 5)) (v := ?_) (a' := ?_) (bb 19 524287) rfl rfl (any_of HT_.out (by kernel_rfl)) (fun _ _ _ h => h) (Or.inl ⟨by rfl, ?_⟩) ?_ ?_
      rotate_left
      · intro w'
        go_simp
        with_reducible rfl
      rotate_left
      · simp only [Act.put, List.setIfInBounds_toArray, List.set_cons_zero, List.set_cons_succ, i64_w, i32_w]
        rfl
      refine done_ (done_of HT_.out (by kernel_rfl)) ?_
      clear hHeld HT_ HW_ HSy
      go_wp2
      refine bodyPost_ret (results_row_tmp (p := 4) (u := 5) (ty := 27) rfl _ _ g4 27 V (0, 0) _ _ rfl rfl HS4.out.cells.1 Tryd.underlying27 rfl HSZ.out) rfl ⟨?_, ?_⟩
      · rw [HSM.out]
        simp [ha]
        first | done | rfl
      · exact HS4.out.drop.drop.up1.drop
    · have ta : (s.a == (n : Int)) = false := by simpa using ha
      refine start_ (n := 19) (S := fun W => W.cell? ⟨g6, 0, none⟩ = some (.int .i64 s.a) ∧ W.cell? ⟨g6, 2, none⟩ = some (.int .i64 s.c) ∧ W.cell? ⟨gs, 0, none⟩ = some (.int .i64 (n : Int)) ∧ (∀ j v, V.toList[j]? = some v → W.cell? ((⟨g6, 0, none⟩ : Addr).add j) = some v)) (ds := []) (bb 19 0) (by kernel_rfl) rfl rfl (HHS.out _ _ HSy.out) (fun hHeld => ?_); refine with_tabW soy_tab soy_bits (fun HT_ HW_ => ?_)
      generalize wx.drew = wd at hHeld HSy ⊢
      refine take_ (i := 0) (N := (some 15)) (v := .agg V) (a' := ?_) (bb 19 1) rfl rfl (take_ofW HT_.out HW_.out (by kernel_rfl)) (fun _ _ _ h => h) (Or.inl ⟨by rfl, fun w' s0 => yields_ld 27 _ rfl ⟨g6, 0, none⟩ rfl V _ s0.2.2.2 Tryd.underlying27 rfl HSZ.out⟩) hHeld ?_ ?_
      rotate_left
      · simp only [Act.put, List.setIfInBounds_toArray, List.set_cons_zero, List.set_cons_succ, i64_w, i32_w]
        rfl
      refine pure_ (i := 1) (N := (some 16)) (v := ?_) (a' := ?_) (bb 19 3) rfl rfl (any_of HT_.out (by kernel_rfl)) (fun _ _ _ h => h) (Or.inl ⟨by rfl, ?_⟩) ?_ ?_
      rotate_left
      · intro w'
        go_simp
        with_reducible rfl
      rotate_left
      · simp only [Act.put, List.setIfInBounds_toArray, List.set_cons_zero, List.set_cons_succ, i64_w, i32_w]
        rfl
      refine pure_ (i := 2) (N := (some 17)) (v := ?_) (a' := ?_) (bb 19 7) rfl rfl (any_of HT_.out (by kernel_rfl)) (fun _ _ _ h => h) (Or.inl ⟨by rfl, ?_⟩) ?_ ?_
      rotate_left
      · intro w'
        go_simp
        with_reducible rfl
      rotate_left
      · simp only [Act.put, List.setIfInBounds_toArray, List.set_cons_zero, List.set_cons_succ, i64_w, i32_w]
        rfl
      refine pure_ (i := 3) (N := (some 18)) (v := ?_) (a' := ?_) (bb 19 15) rfl rfl (any_of HT_.out (by kernel_rfl)) (fun _ _ _ h => h) (Or.inl ⟨by rfl, ?_⟩) ?_ ?_
      rotate_left
      · intro w'
        go_simp
        with_reducible rfl
      rotate_left
      · simp only [Act.put, List.setIfInBounds_toArray, List.set_cons_zero, List.set_cons_succ, i64_w, i32_w]
        rfl
      refine pure_ (i := 4) (N := (some 19)) (v := ?_) (a' := ?_) (bb 19 31) rfl rfl (any_of HT_.out (by kernel_rfl)) (fun _ _ _ h => h) (Or.inl ⟨by rfl, ?_⟩) ?_ ?_
      rotate_left
      · intro w'
        go_simp
        with_reducible rfl
      rotate_left
      · simp only [Act.put, List.setIfInBounds_toArray, List.set_cons_zero, List.set_cons_succ, i64_w, i32_w]
        rfl
      refine take_ (i := 5) (N := (some 20)) (v := ?_) (a' := ?_) (bb 19 63) rfl rfl (take_ofW HT_.out HW_.out (by kernel_rfl)) (fun _ _ _ h => h) (Or.inl ⟨by rfl, ?_⟩) hHeld ?_ ?_
      rotate_left
      · intro w' s0
        (try dsimp only at s0)
        go_simp
        with_reducible rfl
      rotate_left
      · simp only [Act.put, List.setIfInBounds_toArray, List.set_cons_zero, List.set_cons_succ, i64_w, i32_w]
        rfl
      refine pure_ (i := 6) (N := (some 21)) (v := ?_) (a' := ?_) (bb 19 127) rfl rfl (any_of HT_.out (by kernel_rfl)) (fun _ _ _ h => h) (Or.inl ⟨by rfl, ?_⟩) ?_ ?_
      rotate_left
      · intro w'
        go_simp
        with_reducible rfl
      rotate_left
      · simp only [Act.put, List.setIfInBounds_toArray, List.set_cons_zero, List.set_cons_succ, i64_w, i32_w]
        rfl
      refine take_ (i := 7) (N := (some 22)) (v := ?_) (a' := ?_) (bb 19 255) rfl rfl (take_ofW HT_.out HW_.out (by kernel_rfl)) (fun _ _ _ h => h) (Or.inl ⟨by rfl, ?_⟩) hHeld ?_ ?_
      rotate_left
      · intro w' s0
        (try dsimp only at s0)
        go_simp
        with_reducible rfl
      rotate_left
      · simp only [Act.put, List.setIfInBounds_toArray, List.set_cons_zero, List.set_cons_succ, i64_w, i32_w]
        rfl
      refine pure_ (i := 8) (N := (some 23)) (v := ?_) (a' := ?_) (bb 19 511) rfl rfl (any_of HT_.out (by kernel_rfl)) (fun _ _ _ h => h) (Or.inl ⟨by rfl, ?_⟩) ?_ ?_
      rotate_left
      · intro w'
        go_simp
        with_reducible rfl
      rotate_left
      · simp only [Act.put, List.setIfInBounds_toArray, List.set_cons_zero, List.set_cons_succ, i64_w, i32_w]
        rfl
      refine pure_ (i := 9) (N := (some 24)) (v := ?_) (a' := ?_) (bb 19 1023) rfl rfl (any_of HT_.out (by kernel_rfl)) (fun _ _ _ h => h) (Or.inl ⟨by rfl, ?_⟩) ?_ ?_
      rotate_left
      · intro w'
        go_simp
        with_reducible rfl
      rotate_left
      · simp only [Act.put, List.setIfInBounds_toArray, List.set_cons_zero, List.set_cons_succ, i64_w, i32_w]
        rfl
      refine pure_ (i := 10) (N := (some 25)) (v := ?_) (a' := ?_) (bb 19 2047) rfl rfl (any_of HT_.out (by kernel_rfl)) (fun _ _ _ h => h) (Or.inl ⟨by rfl, ?_⟩) ?_ ?_
      rotate_left
      · intro w'
        go_simp
        with_reducible rfl
      rotate_left
      · simp only [Act.put, List.setIfInBounds_toArray, List.set_cons_zero, List.set_cons_succ, i64_w, i32_w]
        rfl
      refine pure_ (i := 11) (N := (some 26)) (v := undef) (a' := ?_) (bb 19 4095) rfl rfl (any_of HT_.out (by kernel_rfl)) (fun _ _ _ h => h) (Or.inr ⟨by rfl, rfl⟩) ?_ ?_
      rotate_left
      · simp only [Act.put, List.setIfInBounds_toArray, List.set_cons_zero, List.set_cons_succ, i64_w, i32_w]
        rfl
      refine pure_ (i := 12) (N := (some 27)) (v := undef) (a' := ?_) (bb 19 8191) rfl rfl (any_of HT_.out (by kernel_rfl)) (fun _ _ _ h => h) (Or.inr ⟨by rfl, rfl⟩) ?_ ?_
      rotate_left
      · simp only [Act.put, List.setIfInBounds_toArray, List.set_cons_zero, List.set_cons_succ, i64_w, i32_w]
        rfl
      refine pure_ (i := 13) (N := (some 28)) (v := undef) (a' := ?_) (bb 19 16383) rfl rfl (any_of HT_.out (by kernel_rfl)) (fun _ _ _ h => h) (Or.inr ⟨by rfl, rfl⟩) ?_ ?_
      rotate_left
      · simp only [Act.put, List.setIfInBounds_toArray, List.set_cons_zero, List.set_cons_succ, i64_w, i32_w]
        rfl
      refine pure_ (i := 14) (N := (some 29)) (v := undef) (a' := ?_) (bb 19 32767) rfl rfl (any_of HT_.out (by kernel_rfl)) (fun _ _ _ h => h) (Or.inr ⟨by rfl, rfl⟩) ?_ ?_
      rotate_left
      · simp only [Act.put, List.setIfInBounds_toArray, List.set_cons_zero, List.set_cons_succ, i64_w, i32_w]
        rfl
      refine pure_ (i := 15) (N := (some 30)) (v := undef) (a' := ?_) (bb 19 65535) rfl rfl (any_of HT_.out (by kernel_rfl)) (fun _ _ _ h => h) (Or.inr ⟨by rfl, rfl⟩) ?_ ?_
      rotate_left
      · simp only [Act.put, List.setIfInBounds_toArray, List.set_cons_zero, List.set_cons_succ, i64_w, i32_w]
        rfl
      refine pure_ (i := 16) (N := (some 31)) (v := ?_) (a' := ?_) (bb 19 131071) rfl rfl (any_of HT_.out (by kernel_rfl)) (fun _ _ _ h => h) (Or.inl ⟨by rfl, ?_⟩) ?_ ?_
      rotate_left
      · intro w'
        go_simp
        with_reducible rfl
      rotate_left
      · simp only [Act.put, List.setIfInBounds_toArray, List.set_cons_zero, List.set_cons_succ, i64_w, i32_w]
        rfl
      refine one_ (i := 17) (N := none) (bb 19 262143) rfl rfl (one_of HT_.out (by kernel_rfl)) (by decide) (fun K hK => ?_)
      rw [if_pos (by rfl)]
      refine Sep.store_wp 27 _ _ rfl rfl rfl HSy.out.up2 HSZ.out HZV.out HVA.out (fun w4 h4 => ?_)
      have HS4 := Aside0.mk h4
      clear h4
      refine hK.out _ _ (HHS.out _ _ HS4.out.down2) (fun hHeld => ?_)
      clear hK K
      refine norm_ (a' := ?_) ?_ ?_
      rotate_left
      · show Act.put _ none _ = _
        simp only [Act.put, List.setIfInBounds_toArray, List.set_cons_zero, List.set_cons_succ, i64_w, i32_w]
        rfl
      refine pure_ (i := 18) (N := (some 5)) (v := ?_) (a' := ?_) (bb 19 524287) rfl rfl (any_of HT_.out (by kernel_rfl)) (fun _ _ _ h => h) (Or.inl ⟨by rfl, ?_⟩) ?_ ?_
      rotate_left
      · intro w'
        go_simp
        with_reducible rfl
      rotate_left
      · simp only [Act.put, List.setIfInBounds_toArray, List.set_cons_zero, List.set_cons_succ, i64_w, i32_w]
        rfl
      refine done_ (done_of HT_.out (by kernel_rfl)) ?_
      clear hHeld HT_ HW_ HSy
      go_wp2
      refine bodyPost_ret (results_row_tmp (p := 4) (u := 5) (ty := 27) rfl _ _ g4 27 V (0, 0) _ _ rfl rfl HS4.out.cells.1 Tryd.underlying27 rfl HSZ.out) rfl ⟨?_, ?_⟩
      · rw [HSM.out]
        simp [ha]
        first | done | rfl
      · exact HS4.out.drop.drop.up1.drop
  · skip
    refine start_ (n := 19) (S := fun W => W.cell? ⟨g6, 0, none⟩ = some (.int .i64 s.a) ∧ W.cell? ⟨g6, 2, none⟩ = some (.int .i64 s.c) ∧ W.cell? ⟨gs, 0, none⟩ = some (.int .i64 (n : Int)) ∧ (∀ j v, V.toList[j]? = some v → W.cell? ((⟨g6, 0, none⟩ : Addr).add j) = some v)) (ds := []) (bb 19 0) (by kernel_rfl) rfl rfl (HHS.out _ _ HSy.out) (fun hHeld => ?_); refine with_tabW sox_tab sox_bits (fun HT_ HW_ => ?_)
    generalize wx.drew = wd at hHeld HSy ⊢
    refine take_ (i := 0) (N := (some 15)) (v := .agg V) (a' := ?_) (bb 19 1) rfl rfl (take_ofW HT_.out HW_.out (by kernel_rfl)) (fun _ _ _ h => h) (Or.inl ⟨by rfl, fun w' s0 => yields_ld 27 _ rfl ⟨g6, 0, none⟩ rfl V _ s0.2.2.2 Tryd.underlying27 rfl HSZ.out⟩) hHeld ?_ ?_
    rotate_left
    · simp only [Act.put, List.setIfInBounds_toArray, List.set_cons_zero, List.set_cons_succ, i64_w, i32_w]
      rfl
    refine pure_ (i := 1) (N := (some 16)) (v := ?_) (a' := ?_) (bb 19 3) rfl rfl (any_of HT_.out (by kernel_rfl)) (fun _ _ _ h => h) (Or.inl ⟨by rfl, ?_⟩) ?_ ?_
    rotate_left
    · intro w'
      go_simp
      with_reducible rfl
    rotate_left
    · simp only [Act.put, List.setIfInBounds_toArray, List.set_cons_zero, List.set_cons_succ, i64_w, i32_w]
      rfl
    refine pure_ (i := 2) (N := (some 17)) (v := ?_) (a' := ?_) (bb 19 7) rfl rfl (any_of HT_.out (by kernel_rfl)) (fun _ _ _ h => h) (Or.inl ⟨by rfl, ?_⟩) ?_ ?_
    rotate_left
    · intro w'
      go_simp
      with_reducible rfl
    rotate_left
    · simp only [Act.put, List.setIfInBounds_toArray, List.set_cons_zero, List.set_cons_succ, i64_w, i32_w]
      rfl
    refine pure_ (i := 3) (N := (some 18)) (v := ?_) (a' := ?_) (bb 19 15) rfl rfl (any_of HT_.out (by kernel_rfl)) (fun _ _ _ h => h) (Or.inl ⟨by rfl, ?_⟩) ?_ ?_
    rotate_left
    · intro w'
      go_simp
      with_reducible rfl
    rotate_left
    · simp only [Act.put, List.setIfInBounds_toArray, List.set_cons_zero, List.set_cons_succ, i64_w, i32_w]
      rfl
    refine pure_ (i := 4) (N := (some 19)) (v := undef) (a' := ?_) (bb 19 31) rfl rfl (any_of HT_.out (by kernel_rfl)) (fun _ _ _ h => h) (Or.inr ⟨by rfl, rfl⟩) ?_ ?_
    rotate_left
    · simp only [Act.put, List.setIfInBounds_toArray, List.set_cons_zero, List.set_cons_succ, i64_w, i32_w]
      rfl
    refine pure_ (i := 5) (N := (some 20)) (v := undef) (a' := ?_) (bb 19 63) rfl rfl (any_of HT_.out (by kernel_rfl)) (fun _ _ _ h => h) (Or.inr ⟨by rfl, rfl⟩) ?_ ?_
    rotate_left
    · simp only [Act.put, List.setIfInBounds_toArray, List.set_cons_zero, List.set_cons_succ, i64_w, i32_w]
      rfl
    refine pure_ (i := 6) (N := (some 21)) (v := undef) (a' := ?_) (bb 19 127) rfl rfl (any_of HT_.out (by kernel_rfl)) (fun _ _ _ h => h) (Or.inr ⟨by rfl, rfl⟩) ?_ ?_
    rotate_left
    · simp only [Act.put, List.setIfInBounds_toArray, List.set_cons_zero, List.set_cons_succ, i64_w, i32_w]
      rfl
    refine pure_ (i := 7) (N := (some 22)) (v := undef) (a' := ?_) (bb 19 255) rfl rfl (any_of HT_.out (by kernel_rfl)) (fun _ _ _ h => h) (Or.inr ⟨by rfl, rfl⟩) ?_ ?_
    rotate_left
    · simp only [Act.put, List.setIfInBounds_toArray, List.set_cons_zero, List.set_cons_succ, i64_w, i32_w]
      rfl
    refine pure_ (i := 8) (N := (some 23)) (v := undef) (a' := ?_) (bb 19 511) rfl rfl (any_of HT_.out (by kernel_rfl)) (fun _ _ _ h => h) (Or.inr ⟨by rfl, rfl⟩) ?_ ?_
    rotate_left
    · simp only [Act.put, List.setIfInBounds_toArray, List.set_cons_zero, List.set_cons_succ, i64_w, i32_w]
      rfl
    refine pure_ (i := 9) (N := (some 24)) (v := ?_) (a' := ?_) (bb 19 1023) rfl rfl (any_of HT_.out (by kernel_rfl)) (fun _ _ _ h => h) (Or.inl ⟨by rfl, ?_⟩) ?_ ?_
    rotate_left
    · intro w'
      go_simp
      with_reducible rfl
    rotate_left
    · simp only [Act.put, List.setIfInBounds_toArray, List.set_cons_zero, List.set_cons_succ, i64_w, i32_w]
      rfl
    refine pure_ (i := 10) (N := (some 25)) (v := ?_) (a' := ?_) (bb 19 2047) rfl rfl (any_of HT_.out (by kernel_rfl)) (fun _ _ _ h => h) (Or.inl ⟨by rfl, ?_⟩) ?_ ?_
    rotate_left
    · intro w'
      go_simp
      with_reducible rfl
    rotate_left
    · simp only [Act.put, List.setIfInBounds_toArray, List.set_cons_zero, List.set_cons_succ, i64_w, i32_w]
      rfl
    refine pure_ (i := 11) (N := (some 26)) (v := undef) (a' := ?_) (bb 19 4095) rfl rfl (any_of HT_.out (by kernel_rfl)) (fun _ _ _ h => h) (Or.inr ⟨by rfl, rfl⟩) ?_ ?_
    rotate_left
    · simp only [Act.put, List.setIfInBounds_toArray, List.set_cons_zero, List.set_cons_succ, i64_w, i32_w]
      rfl
    refine pure_ (i := 12) (N := (some 27)) (v := undef) (a' := ?_) (bb 19 8191) rfl rfl (any_of HT_.out (by kernel_rfl)) (fun _ _ _ h => h) (Or.inr ⟨by rfl, rfl⟩) ?_ ?_
    rotate_left
    · simp only [Act.put, List.setIfInBounds_toArray, List.set_cons_zero, List.set_cons_succ, i64_w, i32_w]
      rfl
    refine pure_ (i := 13) (N := (some 28)) (v := undef) (a' := ?_) (bb 19 16383) rfl rfl (any_of HT_.out (by kernel_rfl)) (fun _ _ _ h => h) (Or.inr ⟨by rfl, rfl⟩) ?_ ?_
    rotate_left
    · simp only [Act.put, List.setIfInBounds_toArray, List.set_cons_zero, List.set_cons_succ, i64_w, i32_w]
      rfl
    refine pure_ (i := 14) (N := (some 29)) (v := undef) (a' := ?_) (bb 19 32767) rfl rfl (any_of HT_.out (by kernel_rfl)) (fun _ _ _ h => h) (Or.inr ⟨by rfl, rfl⟩) ?_ ?_
    rotate_left
    · simp only [Act.put, List.setIfInBounds_toArray, List.set_cons_zero, List.set_cons_succ, i64_w, i32_w]
      rfl
    refine pure_ (i := 15) (N := (some 30)) (v := undef) (a' := ?_) (bb 19 65535) rfl rfl (any_of HT_.out (by kernel_rfl)) (fun _ _ _ h => h) (Or.inr ⟨by rfl, rfl⟩) ?_ ?_
    rotate_left
    · simp only [Act.put, List.setIfInBounds_toArray, List.set_cons_zero, List.set_cons_succ, i64_w, i32_w]
      rfl
    refine pure_ (i := 16) (N := (some 31)) (v := ?_) (a' := ?_) (bb 19 131071) rfl rfl (any_of HT_.out (by kernel_rfl)) (fun _ _ _ h => h) (Or.inl ⟨by rfl, ?_⟩) ?_ ?_
    rotate_left
    · intro w'
      go_simp
      with_reducible rfl
    rotate_left
    · simp only [Act.put, List.setIfInBounds_toArray, List.set_cons_zero, List.set_cons_succ, i64_w, i32_w]
      rfl
    refine one_ (i := 17) (N := none) (bb 19 262143) rfl rfl (one_of HT_.out (by kernel_rfl)) (by decide) (fun K hK => ?_)
    rw [if_pos (by rfl)]
    refine Sep.store_wp 27 _ _ rfl rfl rfl HSy.out.up2 HSZ.out HZV.out HVA.out (fun w4 h4 => ?_)
    have HS4 := Aside0.mk h4
    clear h4
    refine hK.out _ _ (HHS.out _ _ HS4.out.down2) (fun hHeld => ?_)
    clear hK K
    refine norm_ (a' := ?_) ?_ ?_
    rotate_left
    · show Act.put _ none _ = _
      simp only [Act.put, List.setIfInBounds_toArray, List.set_cons_zero, List.set_cons_succ, i64_w, i32_w]
      rfl
    refine pure_ (i := 18) (N := (some 5)) (v := ?_) (a' := ?_) (bb 19 524287) rfl rfl (any_of HT_.out (by kernel_rfl)) (fun _ _ _ h => h) (Or.inl ⟨by rfl, ?_⟩) ?_ ?_
    rotate_left
    · intro w'
      go_simp
      with_reducible rfl
    rotate_left
    · simp only [Act.put, List.setIfInBounds_toArray, List.set_cons_zero, List.set_cons_succ, i64_w, i32_w]
      rfl
    refine done_ (done_of HT_.out (by kernel_rfl)) ?_
    clear hHeld HT_ HW_ HSy
    go_wp2
    refine bodyPost_ret (results_row_tmp (p := 4) (u := 5) (ty := 27) rfl _ _ g4 27 V (0, 0) _ _ rfl rfl HS4.out.cells.1 Tryd.underlying27 rfl HSZ.out) rfl ⟨?_, ?_⟩
    · rw [HSM.out]
      simp
    · exact HS4.out.drop.drop.up1.drop
end Go.Proofs.YtaflofcnjakaaaaDoor.M

namespace Go.Proofs.YtaflofcnjakaaaaDoor.M
open Go.RowKit Go.Maps Go.Proofs.YtaflofcnjakaaaaDoorW.PrintWords Go.Proofs.YtaflofcnjakaaaaDoorW.PrintLast Go.Proofs.YtaflofcnjakaaaaDoorW.PrintMore Go.Proofs.YtaflofcnjakaaaaDoor.Wr Go.Proofs.YtaflofcnjakaaaaDoor.Pl Go.Proofs.YtaflofcnjakaaaaDoor.Z Go.Proofs.YtaflofcnjakaaaaDoor.A
set_option linter.unusedVariables false
set_option linter.unusedSimpArgs false
def twoS (is too : Bool) (a b : SL) : SL := if too = true ∧ (is = false ∨ a.c < b.c) then b else if is = true then a else noSL
def twoE (is too : Bool) : Int := if is = true ∨ too = true then 0 else 180
theorem decE0_may {b : List Int} (hb : bytes_ b) (h : decE b = 0) : (decS b).May := by
  cases hd : decB b with
  | none => rw [(decS_no hd).2] at h; cases h
  | some s => rw [(decS_yes hd).1]; exact (dec_some hb hd).2.1
theorem two_read {N : Int} {cur : Nat → List Int} (hb : ∀ j, bytes_ (cur j)) :
    readS N cur = twoS (soundM N 0 (cur 0)) (soundM N 1 (cur 1)) (decS (cur 0)) (decS (cur 1)) ∧ readE N cur = twoE (soundM N 0 (cur 0)) (soundM N 1 (cur 1)) := by
  have e0 : soundM N 0 (cur 0) = true ↔ decE (cur 0) = 0 ∧ (decS (cur 0)).a = N ∧ (decS (cur 0)).c.tmod 2 = 0 := by unfold soundM; simp
  have e1 : soundM N 1 (cur 1) = true ↔ decE (cur 1) = 0 ∧ (decS (cur 1)).a = N ∧ (decS (cur 1)).c.tmod 2 = 1 := by unfold soundM; simp
  have hbst : bestJ N cur 2 = pickS N 1 (pickS N 0 startSL (decS (cur 0)) (decE (cur 0))) (decS (cur 1)) (decE (cur 1)) := rfl
  unfold readS readE
  rw [hbst]
  cases h0 : soundM N 0 (cur 0) with
  | true =>
    obtain ⟨g1, g2, g3⟩ := e0.1 h0
    have hc0 := (decE0_may (hb 0) g1).c.1
    have p0 : pickS N 0 startSL (decS (cur 0)) (decE (cur 0)) = decS (cur 0) := by
      unfold pickS
      rw [if_pos ⟨g1, g2, g3, by show (-1 : Int) < _; omega⟩]
    rw [p0]
    cases h1 : soundM N 1 (cur 1) with
    | true =>
      obtain ⟨k1, k2, k3⟩ := e1.1 h1
      have hc1 := (decE0_may (hb 1) k1).c.1
      by_cases hl : (decS (cur 0)).c < (decS (cur 1)).c
      · have p1 : pickS N 1 (decS (cur 0)) (decS (cur 1)) (decE (cur 1)) = decS (cur 1) := by
          unfold pickS
          rw [if_pos ⟨k1, k2, k3, hl⟩]
        rw [p1, if_neg (by omega), if_neg (by omega)]
        exact ⟨by unfold twoS; rw [if_pos ⟨rfl, .inr hl⟩], by unfold twoE; simp⟩
      · have p1 : pickS N 1 (decS (cur 0)) (decS (cur 1)) (decE (cur 1)) = decS (cur 0) := by
          unfold pickS
          rw [if_neg (fun h => hl h.2.2.2)]
        rw [p1, if_neg (by omega), if_neg (by omega)]
        exact ⟨by unfold twoS; rw [if_neg (by simp [hl]), if_pos rfl], by unfold twoE; simp⟩
    | false =>
      have p1 : pickS N 1 (decS (cur 0)) (decS (cur 1)) (decE (cur 1)) = decS (cur 0) := by
        unfold pickS
        rw [if_neg (fun h => by have := e1.2 ⟨h.1, h.2.1, h.2.2.1⟩; rw [h1] at this; cases this)]
      rw [p1, if_neg (by omega), if_neg (by omega)]
      exact ⟨by unfold twoS; rw [if_neg (by simp), if_pos rfl], by unfold twoE; simp⟩
  | false =>
    have p0 : pickS N 0 startSL (decS (cur 0)) (decE (cur 0)) = startSL := by
      unfold pickS
      rw [if_neg (fun h => by have := e0.2 ⟨h.1, h.2.1, h.2.2.1⟩; rw [h0] at this; cases this)]
    rw [p0]
    cases h1 : soundM N 1 (cur 1) with
    | true =>
      obtain ⟨k1, k2, k3⟩ := e1.1 h1
      have hc1 := (decE0_may (hb 1) k1).c.1
      have p1 : pickS N 1 startSL (decS (cur 1)) (decE (cur 1)) = decS (cur 1) := by
        unfold pickS
        rw [if_pos ⟨k1, k2, k3, by show (-1 : Int) < _; omega⟩]
      rw [p1, if_neg (by omega), if_neg (by omega)]
      exact ⟨by unfold twoS; rw [if_pos ⟨rfl, .inl rfl⟩], by unfold twoE; simp⟩
    | false =>
      have p1 : pickS N 1 startSL (decS (cur 1)) (decE (cur 1)) = startSL := by
        unfold pickS
        rw [if_neg (fun h => by have := e1.2 ⟨h.1, h.2.1, h.2.2.1⟩; rw [h1] at this; cases this)]
      rw [p1, if_pos (by decide), if_pos (by decide)]
      exact ⟨by unfold twoS; rw [if_neg (by simp), if_neg (by simp)], by unfold twoE; simp⟩
set_option maxHeartbeats 8000000 in
set_option maxRecDepth 100000 in
theorem Sep.read18 {w0 w : World} {M : List Th} {A1 A2 : Option Addr} {c1 c2 p q : Nat} {l1 l2 : List S106} {D : DS} {n : Nat} {r wr fl : Int} (h : Sep w0 w (refT (.slice A1 p c1) (.slice A2 q c2) l1 l2 :: M)) (hR : Rl D l1 l2) (hn : D.n = n) (hp : l1.length = p) (hq : l2.length = q) (hl : p + q ≤ 1000) (h2 : 2 ≤ n) (hc : ∀ j, j < 2 → (D.cur j).length = 512) (hb : ∀ j, bytes_ (D.cur j)) :
    Calls Tryd.prog 29 #[.agg #[.int .i64 (n : Int), .slice A1 p c1, .slice A2 q c2, .int .i64 r, .int .i64 wr, .int .i64 fl]] w fun e w' => e = .returned (.tuple #[.agg (readS (n : Int) D.cur).V.toArray, .int .i64 (readE (n : Int) D.cur)]) ∧ Sep w0 w' (refT (.slice A1 p c1) (.slice A2 q c2) l1 l2 :: M) := by
  rw [(two_read hb).1, (two_read hb).2]
  have HS0_ := Aside0.mk (fun W (N : List Th) (h : Sep w0 W (refT (.slice A1 p c1) (.slice A2 q c2) l1 l2 :: N)) => (show Calls Tryd.prog 53 #[.agg #[.int .i64 (n : Int), .slice A1 p c1, .slice A2 q c2, .int .i64 r, .int .i64 wr, .int .i64 fl], .int .i64 0] W (fun e w' => e = .returned (.tuple #[.agg (decS (D.cur 0)).V.toArray, .bool (soundM (n : Int) 0 (D.cur 0))]) ∧ Sep w0 w' (refT (.slice A1 p c1) (.slice A2 q c2) l1 l2 :: N)) from Sep.sound h hR hn hp hq hl (i := 0) (by omega) (hc 0 (by decide)) (hb 0)))
  have HS1_ := Aside0.mk (fun W (N : List Th) (h : Sep w0 W (refT (.slice A1 p c1) (.slice A2 q c2) l1 l2 :: N)) => (show Calls Tryd.prog 53 #[.agg #[.int .i64 (n : Int), .slice A1 p c1, .slice A2 q c2, .int .i64 r, .int .i64 wr, .int .i64 fl], .int .i64 1] W (fun e w' => e = .returned (.tuple #[.agg (decS (D.cur 1)).V.toArray, .bool (soundM (n : Int) 1 (D.cur 1))]) ∧ Sep w0 w' (refT (.slice A1 p c1) (.slice A2 q c2) l1 l2 :: N)) from Sep.sound h hR hn hp hq hl (i := 1) (by omega) (hc 1 (by decide)) (hb 1)))
  have ha := decS_ok (hb 0)
  have hbk := decS_ok (hb 1)
  have HSI := Aside0.mk (h.push_alloc #[.int .i64 (n : Int), .slice A1 p c1, .slice A2 q c2, .int .i64 r, .int .i64 wr, .int .i64 fl] 43)
  clear h hR hn hp hq hl h2 hc hb
  generalize soundM (n : Int) 0 (D.cur 0) = is at *
  generalize soundM (n : Int) 1 (D.cur 1) = too at *
  generalize decS (D.cur 0) = a at *
  generalize decS (D.cur 1) = b at *
  have HZA := Aside0.mk (SlAt.sa ha)
  have HZB := Aside0.mk (SlAt.sa hbk)
  have HAA := Aside0.mk (SL.V_all a)
  have HAB := Aside0.mk (SL.V_all b)
  have hz := (zero_of_info (P := Tryd.prog) (t := 27) (v := .agg noSL.V.toArray) (n := 105) (by kernel_rfl)).1
  have HBZ := Aside0.mk (show Tryd.prog.built 27 [] = some noSL.V.toArray from built27z)
  have HSZ := Aside0.mk (SlAt.sa noSL_ok)
  have HAZ := Aside0.mk (SL.V_all noSL)
  have HQA := Aside0.mk (show noSL.V.toArray.size = a.V.toArray.size from by simp only [List.size_toArray]; rw [SL.V_len noSL_ok, SL.V_len ha])
  have HQB := Aside0.mk (show noSL.V.toArray.size = b.V.toArray.size from by simp only [List.size_toArray]; rw [SL.V_len noSL_ok, SL.V_len hbk])
  have HLV := Aside0.mk (fun (s : SL) W (M : List Th) g (h : Sep w0 W (cellsT g s.V.toArray 27 :: M)) => (show ∀ j v, s.V.toArray.toList[j]? = some v → W.cell? ((⟨g, 0, none⟩ : Addr).add j) = some v from fun j v hv => seg_at h.cells.1 0 s.V (by rw [List.drop_zero]; exact List.take_of_length_le (Nat.le_refl _)) j v (by simpa using hv)))
  have HLFa := Aside0.mk (fun W (M : List Th) g (h : Sep w0 W (cellsT g a.V.toArray 27 :: M)) => (show W.cell? ⟨g, 2, none⟩ = some (.int .i64 a.c) from (SlAt.mk h.cells.1 ha).c2))
  have HLFb := Aside0.mk (fun W (M : List Th) g (h : Sep w0 W (cellsT g b.V.toArray 27 :: M)) => (show W.cell? ⟨g, 2, none⟩ = some (.int .i64 b.c) from (SlAt.mk h.cells.1 hbk).c2))
  have HTB := Aside0.mk (show too = true → (is = false ∨ a.c < b.c) → twoS is too a b = b ∧ twoE is too = 0 from fun h1 h2 => ⟨if_pos ⟨h1, h2⟩, if_pos (.inr h1)⟩)
  have HTA := Aside0.mk (show is = true → ¬ (too = true ∧ (is = false ∨ a.c < b.c)) → twoS is too a b = a ∧ twoE is too = 0 from fun h1 h2 => ⟨by unfold twoS; rw [if_neg h2, if_pos h1], if_pos (.inl h1)⟩)
  have HTN := Aside0.mk (show is = false → too = false → twoS is too a b = noSL ∧ twoE is too = 180 from fun h1 h2 => by subst h1 h2; exact ⟨by unfold twoS; rw [if_neg (by simp), if_neg (by simp)], by unfold twoE; rw [if_neg (by simp)]⟩)
  clear ha hbk
  generalize hTS : (twoS is too a b).V.toArray = RV
  have HRVb := Aside0.mk (show twoS is too a b = b → RV = b.V.toArray from fun h => by rw [← hTS, h])
  have HRVa := Aside0.mk (show twoS is too a b = a → RV = a.V.toArray from fun h => by rw [← hTS, h])
  have HRVn := Aside0.mk (show twoS is too a b = noSL → RV = noSL.V.toArray from fun h => by rw [← hTS, h])
  clear hTS
  generalize twoE is too = RE at *
  generalize noSL.V.toArray = Z at *
  go_enter Tryd.func29, Tryd.ntmps29
  go_upto_region 1 with (fail)
  have HS0 := Aside0.mk (HSI.out.push_alloc Z 27)
  have hsz : (w.alloc (.cells #[.int .i64 (n : Int), .slice A1 p c1, .slice A2 q c2, .int .i64 r, .int .i64 wr, .int .i64 fl] 43)).heap.size = w.heap.size + 1 := by show (w.heap.push _).size = _; simp
  rw [hsz] at HS0
  generalize (w.alloc (.cells #[.int .i64 (n : Int), .slice A1 p c1, .slice A2 q c2, .int .i64 r, .int .i64 wr, .int .i64 fl] 43)).alloc (.cells Z 27) = w2 at HS0 ⊢
  generalize hg2 : w.heap.size + 1 = g2 at HS0 ⊢
  generalize w.heap.size = gs at HS0 ⊢
  clear HSI hsz hg2
  obtain ⟨y0, y1, y2, y3, y4, y5⟩ := rf_held HS0.out.up1
  go_upto_region 2 with (first
    | (go_at_call 53; (with_reducible refine (HS0_.out _ _ HS0.out.up2).mono ?_); rintro e w3 ⟨rfl, h3⟩; have HS3 := Aside0.mk h3; clear h3)
    | ((with_reducible refine gate_store (ty := 27) rfl ?_); refine Sep.store_own rfl 27 _ _ rfl rfl rfl (HS3.out.push_alloc Z 27) HZA.out HQA.out HAA.out ?_; intro w4 h4; have HS4 := Aside0.mk h4; clear h4))
  generalize w3.heap.size = g4 at HS4 ⊢
  clear y0 y1 y2 y3 y4 y5 HS0 HS3 HS0_
  obtain ⟨y0, y1, y2, y3, y4, y5⟩ := rf_held HS4.out.up3
  go_upto_region 3 with (first
    | (go_at_call 53; (with_reducible refine (HS1_.out _ _ HS4.out.up1).mono ?_); rintro e w5 ⟨rfl, h5⟩; have HS5 := Aside0.mk h5; clear h5)
    | ((with_reducible refine gate_store (ty := 27) rfl ?_); refine Sep.store_own rfl 27 _ _ rfl rfl rfl (HS5.out.push_alloc Z 27) HZB.out HQB.out HAB.out ?_; intro w6 h6; have HS6 := Aside0.mk h6; clear h6))
  generalize w5.heap.size = g6 at HS6 ⊢
  clear y0 y1 y2 y3 y4 y5 HS4 HS5 HS1_
  have ya := HLFa.out _ _ _ HS6.out.up2
  have yb := HLFb.out _ _ _ HS6.out
  cases too with
  | true =>
    cases is with
    | true =>
      by_cases hl : a.c < b.c
      · have tl : decide (a.c < b.c) = true := decide_eq_true hl
        go_wp2_with (first
          | ((with_reducible refine gate_load (ty := 27) rfl ?_); refine wpList_ldw ?_ 27 _ rfl ⟨g6, 0, none⟩ ?_ b.V.toArray _ (HLV.out b _ _ _ HS6.out) Tryd.underlying27 rfl HZB.out ?_; exact rfl; exact rfl; skip)
          | ((with_reducible refine gate_store (ty := 27) rfl ?_); refine Sep.store_own rfl 27 _ _ rfl rfl rfl HS6.out.up3 HZB.out HQB.out HAB.out ?_; intro w7 h7; have HS7 := Aside0.mk h7; clear h7))
        obtain ⟨h1, h2⟩ := HTB.out (by simp) (by simp [*])
        subst h2
        rw [HRVb.out h1]
        refine bodyPost_ret (results_row_tmp (p := 2) (u := 3) (ty := 27) rfl _ _ g2 27 b.V.toArray (0, 0) _ _ rfl rfl HS7.out.cells.1 Tryd.underlying27 rfl HZB.out) rfl ⟨rfl, ?_⟩
        exact HS7.out.drop.drop.up1.drop.up1.drop
      · have tl : decide (a.c < b.c) = false := decide_eq_false hl
        go_wp2_with (first
          | ((with_reducible refine gate_load (ty := 27) rfl ?_); refine wpList_ldw ?_ 27 _ rfl ⟨g4, 0, none⟩ ?_ a.V.toArray _ (HLV.out a _ _ _ HS6.out.up2) Tryd.underlying27 rfl HZA.out ?_; exact rfl; exact rfl; skip)
          | ((with_reducible refine gate_store (ty := 27) rfl ?_); refine Sep.store_own rfl 27 _ _ rfl rfl rfl HS6.out.up3 HZA.out HQA.out HAA.out ?_; intro w7 h7; have HS7 := Aside0.mk h7; clear h7))
        obtain ⟨h1, h2⟩ := HTA.out (by simp) (by simp [*])
        subst h2
        rw [HRVa.out h1]
        refine bodyPost_ret (results_row_tmp (p := 2) (u := 3) (ty := 27) rfl _ _ g2 27 a.V.toArray (0, 0) _ _ rfl rfl HS7.out.cells.1 Tryd.underlying27 rfl HZA.out) rfl ⟨rfl, ?_⟩
        exact HS7.out.drop.drop.up1.drop.up1.drop
    | false =>
      go_wp2_with (first
        | ((with_reducible refine gate_load (ty := 27) rfl ?_); refine wpList_ldw ?_ 27 _ rfl ⟨g6, 0, none⟩ ?_ b.V.toArray _ (HLV.out b _ _ _ HS6.out) Tryd.underlying27 rfl HZB.out ?_; exact rfl; exact rfl; skip)
        | ((with_reducible refine gate_store (ty := 27) rfl ?_); refine Sep.store_own rfl 27 _ _ rfl rfl rfl HS6.out.up3 HZB.out HQB.out HAB.out ?_; intro w7 h7; have HS7 := Aside0.mk h7; clear h7))
      obtain ⟨h1, h2⟩ := HTB.out (by simp) (by simp [*])
      subst h2
      rw [HRVb.out h1]
      refine bodyPost_ret (results_row_tmp (p := 2) (u := 3) (ty := 27) rfl _ _ g2 27 b.V.toArray (0, 0) _ _ rfl rfl HS7.out.cells.1 Tryd.underlying27 rfl HZB.out) rfl ⟨rfl, ?_⟩
      exact HS7.out.drop.drop.up1.drop.up1.drop
  | false =>
    cases is with
    | true =>
      go_wp2_with (first
        | ((with_reducible refine gate_load (ty := 27) rfl ?_); refine wpList_ldw ?_ 27 _ rfl ⟨g4, 0, none⟩ ?_ a.V.toArray _ (HLV.out a _ _ _ HS6.out.up2) Tryd.underlying27 rfl HZA.out ?_; exact rfl; exact rfl; skip)
        | ((with_reducible refine gate_store (ty := 27) rfl ?_); refine Sep.store_own rfl 27 _ _ rfl rfl rfl HS6.out.up3 HZA.out HQA.out HAA.out ?_; intro w7 h7; have HS7 := Aside0.mk h7; clear h7))
      obtain ⟨h1, h2⟩ := HTA.out (by simp) (by simp [*])
      subst h2
      rw [HRVa.out h1]
      refine bodyPost_ret (results_row_tmp (p := 2) (u := 3) (ty := 27) rfl _ _ g2 27 a.V.toArray (0, 0) _ _ rfl rfl HS7.out.cells.1 Tryd.underlying27 rfl HZA.out) rfl ⟨rfl, ?_⟩
      exact HS7.out.drop.drop.up1.drop.up1.drop
    | false =>
      go_wp2_with (first
        | ((with_reducible refine gate_build (ty := 27) rfl ?_); refine wpList_buildTo rfl 27 _ rfl (some 33) rfl Z ?aB ?_; (case aB => (simp only [List.map_toArray, List.map_nil]; exact HBZ.out)))
        | ((with_reducible refine gate_store (ty := 27) rfl ?_); refine Sep.store_own rfl 27 _ _ rfl rfl rfl HS6.out.up3 HSZ.out rfl HAZ.out ?_; intro w7 h7; have HS7 := Aside0.mk h7; clear h7))
      obtain ⟨h1, h2⟩ := HTN.out (by simp) (by simp)
      subst h2
      rw [HRVn.out h1]
      refine bodyPost_ret (results_row_tmp (p := 2) (u := 3) (ty := 27) rfl _ _ g2 27 Z (0, 0) _ _ rfl rfl HS7.out.cells.1 Tryd.underlying27 rfl HSZ.out) rfl ⟨rfl, ?_⟩
      exact HS7.out.drop.drop.up1.drop.up1.drop
end Go.Proofs.YtaflofcnjakaaaaDoor.M

namespace Go.Proofs.YtaflofcnjakaaaaDoor.M
open Go.RowKit Go.Maps Go.Proofs.YtaflofcnjakaaaaDoorW.PrintWords Go.Proofs.YtaflofcnjakaaaaDoorW.PrintLast Go.Proofs.YtaflofcnjakaaaaDoorW.PrintMore Go.Proofs.YtaflofcnjakaaaaDoor.Wr Go.Proofs.YtaflofcnjakaaaaDoor.Pl Go.Proofs.YtaflofcnjakaaaaDoor.Z Go.Proofs.YtaflofcnjakaaaaDoor.A
set_option linter.unusedVariables false
set_option linter.unusedSimpArgs false
set_option maxRecDepth 100000
def fD (n : Nat) : DS := DS.fresh n (List.replicate n zeros)
theorem all43 (n r wr fl : Int) (A1 A2 : Option Addr) (p q c1 c2 : Nat) : (#[Value.int .i64 n, .slice A1 p c1, .slice A2 q c2, .int .i64 r, .int .i64 wr, .int .i64 fl] : Array Value).all (·.oneCell') = true := by
  rw [Array.all_eq_true']
  intro v hv
  simp only [List.mem_toArray, List.mem_cons, List.not_mem_nil, or_false] at hv
  rcases hv with rfl | rfl | rfl | rfl | rfl | rfl <;> rfl
section
variable {w0 W : World} {M : List Th} {n i gd : Nat} {b : List Int} {A1 A2 Ae : Option Addr} {c1 c2 ce : Nat}
end
end Go.Proofs.YtaflofcnjakaaaaDoor.M

namespace Go.Proofs.YtaflofcnjakaaaaDoor.M
open Go.RowKit Go.Maps Go.Proofs.YtaflofcnjakaaaaDoorW.PrintWords Go.Proofs.YtaflofcnjakaaaaDoorW.PrintLast Go.Proofs.YtaflofcnjakaaaaDoorW.PrintMore Go.Proofs.YtaflofcnjakaaaaDoor.Wr Go.Proofs.YtaflofcnjakaaaaDoor.Pl Go.Proofs.YtaflofcnjakaaaaDoor.Z Go.Proofs.YtaflofcnjakaaaaDoor.A
set_option linter.unusedVariables false
set_option linter.unusedSimpArgs false
structure RdAt (n : Nat) (D : DS) (i : Nat) : Prop where
  n_ : D.n = n
  c : D.c ≤ i
  y : ∀ j, bytes_ (D.cur j)
  l : ∀ j, j < 2 → (D.cur j).length = 512
theorem RdAt.fresh {n : Nat} (h2 : 2 ≤ n) : RdAt n (fD n) 0 :=
  ⟨rfl, Nat.le_refl _, fun j => by
    show bytes_ ((List.replicate n zeros).getD j [])
    exact getD_rep_bytes n j, fun j hj => by
    show ((List.replicate n zeros).getD j []).length = 512
    rw [getD_rep (by omega)]; exact zeros_len⟩
theorem RdAt.put {n : Nat} {D : DS} {i : Nat} (h : RdAt n D i) (p : Nat) {b : List Int} (hb : bytes_ b) (hl : b.length = 512) : RdAt n (D.put p b) (i + 1) :=
  ⟨h.n_, by show D.c + 1 ≤ i + 1; have := h.c; omega, fun j => by
    by_cases hj : j = p
    · subst hj; rw [put_cur]; exact hb
    · rw [put_cur_ne _ _ hj]; exact h.y j, fun j hj2 => by
    by_cases hj : j = p
    · subst hj; rw [put_cur]; exact hl
    · rw [put_cur_ne _ _ hj]; exact h.l j hj2⟩
theorem RdAt.flush {n : Nat} {D : DS} {i : Nat} (h : RdAt n D i) (h2 : 2 ≤ n) : RdAt n D.flush i :=
  ⟨h.n_, Nat.zero_le _, fun j => by
    by_cases hj : j < D.n
    · rw [flush_cur _ hj]; exact h.y j
    · rw [flush_cur_no _ hj]; exact bytes_nil, fun j hj => by
    rw [flush_cur _ (by rw [h.n_]; omega)]; exact h.l j hj⟩
section
variable {w0 W : World} {M : List Th} {n i gd p q : Nat} {b : List Int} {A1 A2 Ae : Option Addr} {c1 c2 ce : Nat} {l1 l2 : List S106} {r wr fl : Int}
theorem g_write {nn : Int} (hnn : nn = (i : Int)) (hi : i < n) (hb : b.length = 512) (hp : l1.length = p) (hq : l2.length = q) (hl : p + q ≤ 1000) (h : Sep w0 W (refT (.slice A1 p c1) (.slice A2 q c2) l1 l2 :: M)) (hC : (Kd.int .u8).C W Ae 512 b) (hc : 512 ≤ ce) :
    Calls Tryd.prog 20 #[.agg #[.int .i64 (n : Int), .slice A1 p c1, .slice A2 q c2, .int .i64 r, .int .i64 wr, .int .i64 fl], .int .i64 nn, .slice Ae 512 ce] W (fun e w' => ∃ A1' c1' A2' c2' wr', e = .returned (.tuple #[.agg #[.int .i64 (n : Int), .slice A1' p c1', .slice A2' (q + 1) c2', .int .i64 r, .int .i64 wr', .int .i64 fl], .int .i64 0]) ∧ Sep w0 w' (refT (.slice A1' p c1') (.slice A2' (q + 1) c2') l1 (l2 ++ [⟨(i : Int), b⟩]) :: M)) := by
  subst hnn hp hq
  have hf := write_ev l1 l2 n i hi r wr fl b hb (by omega) (l2.length + 2) (Nat.le_refl _)
  have h' := Sep.rWrite h (l2.length + 2) (n : Int) r wr fl (i : Int) Ae ce b (n : Int) l1 (l2 ++ [⟨(i : Int), b⟩]) r _ fl 0 (by rw [hb]; exact hC) (by rw [hb]; exact hc) hf
  simp only [List.length_append, List.length_singleton, hb] at h'
  refine h'.mono ?_
  rintro e w' ⟨A1', c1', A2', c2', he, h3⟩
  exact ⟨A1', c1', A2', c2', _, he, h3⟩
theorem g_flush (hp : l1.length = p) (hq : l2.length = q) (hl : p + q ≤ 1000) (h : Sep w0 W (refT (.slice A1 p c1) (.slice A2 q c2) l1 l2 :: M)) :
    Calls Tryd.prog 21 #[.agg #[.int .i64 (n : Int), .slice A1 p c1, .slice A2 q c2, .int .i64 r, .int .i64 wr, .int .i64 fl]] W (fun e w' => ∃ A1' c1' A2' c2' fl', e = .returned (.agg #[.int .i64 (n : Int), .slice A1' (flushR l1 l2).length c1', .slice A2' 0 c2', .int .i64 r, .int .i64 wr, .int .i64 fl']) ∧ Sep w0 w' (refT (.slice A1' (flushR l1 l2).length c1') (.slice A2' 0 c2') (flushR l1 l2) [] :: M)) := by
  subst hp hq
  have hf := flush_ev l1 l2 (n : Int) r wr fl (by omega) _ (Nat.le_refl _)
  have h' := Sep.rFlush h _ (n : Int) r wr fl (n : Int) (flushR l1 l2) [] r wr _ hf
  simp only [List.length_nil] at h'
  refine h'.mono ?_
  rintro e w' ⟨A1', c1', A2', c2', he, h3⟩
  exact ⟨A1', c1', A2', c2', _, he, h3⟩
end
set_option maxHeartbeats 8000000 in
set_option maxRecDepth 100000 in
theorem read_nil {w0 w : World} {M : List Th} (h : Sep w0 w M) : Calls Tryd.prog 28 #[.pointer none] w fun e w' => e = .returned (.tuple #[.agg noSL.V.toArray, .int .i64 1]) ∧ Sep w0 w' M := by
  have hz := (zero_of_info (P := Tryd.prog) (t := 27) (v := .agg noSL.V.toArray) (n := 105) (by kernel_rfl)).1
  have HBZ := Aside0.mk (show Tryd.prog.built 27 [] = some noSL.V.toArray from built27z)
  have HSZ := Aside0.mk (SlAt.sa noSL_ok)
  have HAZ := Aside0.mk (SL.V_all noSL)
  have HSI := Aside0.mk h
  clear h
  generalize noSL.V.toArray = Z at *
  go_enter Tryd.func28, Tryd.ntmps28
  go_upto_region 1 with (fail)
  have HS1 := Aside0.mk (HSI.out.push_alloc Z 27)
  generalize w.alloc (.cells Z 27) = w1 at HS1 ⊢
  generalize w.heap.size = g2 at HS1 ⊢
  clear HSI
  go_wp2_with (first
    | ((with_reducible refine gate_build (ty := 27) rfl ?_); refine wpList_buildTo rfl 27 _ rfl (some 12) rfl Z ?aB ?_; (case aB => (simp only [List.map_toArray, List.map_nil]; exact HBZ.out)))
    | ((with_reducible refine gate_store (ty := 27) rfl ?_); refine Sep.store_own rfl 27 _ _ rfl rfl rfl HS1.out HSZ.out rfl HAZ.out ?_; intro w7 h7; have HS7 := Aside0.mk h7; clear h7))
  refine bodyPost_ret (results_row_tmp (p := 2) (u := 3) (ty := 27) rfl _ _ g2 27 Z (0, 0) _ _ rfl rfl HS7.out.cells.1 Tryd.underlying27 rfl HSZ.out) rfl ⟨rfl, ?_⟩
  exact HS7.out.drop
end Go.Proofs.YtaflofcnjakaaaaDoor.M

namespace Go.Proofs.YtaflofcnjakaaaaDoor.M
open Go.RowKit Go.Maps Go.Proofs.YtaflofcnjakaaaaDoorW.PrintWords Go.Proofs.YtaflofcnjakaaaaDoorW.PrintLast Go.Proofs.YtaflofcnjakaaaaDoorW.PrintMore Go.Proofs.YtaflofcnjakaaaaDoor.Wr Go.Proofs.YtaflofcnjakaaaaDoor.Pl Go.Proofs.YtaflofcnjakaaaaDoor.P Go.Proofs.YtaflofcnjakaaaaDoor.A
set_option linter.unusedVariables false
set_option linter.unusedSimpArgs false
theorem pick_ge (N n : Int) (b s : SL) (e : Int) : b.c ≤ (pickS N n b s e).c := by
  unfold pickS
  split
  · rename_i h; omega
  · exact Int.le_refl _
theorem pick_val {N n : Int} (b : SL) {s : SL} {e : Int} (he : e = 0) (ha : s.a = N) (hp : s.c.tmod 2 = n) : s.c ≤ (pickS N n b s e).c := by
  unfold pickS
  split
  · exact Int.le_refl _
  · rename_i h
    by_cases hx : b.c < s.c
    · exact absurd ⟨he, ha, hp, hx⟩ h
    · omega
theorem best_two (N : Int) (cur : Nat → List Int) : bestJ N cur 2 = pickS N 1 (pickS N 0 startSL (decS (cur 0)) (decE (cur 0))) (decS (cur 1)) (decE (cur 1)) := rfl
theorem best_new {N : Int} {cur cur' : Nat → List Int} {s t : SL} (hb : bestJ N cur 2 = s) (ht : t.Ok) (hm : t.May) (hta : t.a = N) (hc : s.c < t.c) {i : Nat} (hi : i < 2) (hp : t.c.tmod 2 = (i : Int)) (h1 : cur' i = encB t) (h2 : ∀ j, j < 2 → j ≠ i → cur' j = cur j) : bestJ N cur' 2 = t := by
  have hy := decS_yes (dec_enc ht hm)
  have htc := hm.c
  rw [best_two] at hb ⊢
  rcases (show i = 0 ∨ i = 1 by omega) with rfl | rfl
  · rw [h1, h2 1 (by decide) (by decide), hy.1, hy.2]
    have e1 : pickS N 0 startSL t 0 = t := by
      unfold pickS
      rw [if_pos ⟨rfl, hta, hp, by show (-1 : Int) < t.c; omega⟩]
    rw [e1]
    unfold pickS
    rw [if_neg]
    rintro ⟨g1, g2, g3, g4⟩
    have := pick_val (pickS N 0 startSL (decS (cur 0)) (decE (cur 0))) g1 g2 g3
    rw [hb] at this
    omega
  · rw [h1, h2 0 (by decide) (by decide), hy.1, hy.2]
    have g := pick_ge N 1 (pickS N 0 startSL (decS (cur 0)) (decE (cur 0))) (decS (cur 1)) (decE (cur 1))
    rw [hb] at g
    generalize pickS N 0 startSL (decS (cur 0)) (decE (cur 0)) = B at g
    unfold pickS
    rw [if_pos ⟨rfl, hta, hp, by omega⟩]
structure RowAt (N : Nat) (D : DS) (s : SL) : Prop where
  n : D.n = N
  n2 : 40 ≤ N
  L : D.L.length = N
  w : ∀ j, D.W j = []
  c : D.c = 0
  y : ∀ j, bytes_ (D.cur j)
  l : ∀ j, j < 2 → (D.cur j).length = 512
  ok : s.Ok
  may : s.May
  sa : s.a = (N : Int)
  best : bestJ (N : Int) D.cur 2 = s
theorem RowAt.reads {N : Nat} {D : DS} {s : SL} (h : RowAt N D s) : readS (D.n : Int) D.cur = s ∧ readE (D.n : Int) D.cur = 0 := by
  have hc := h.may.c
  unfold readS readE
  rw [h.n, h.best]
  exact ⟨if_neg (by omega), if_neg (by omega)⟩
theorem RowAt.readsJ {N : Nat} {D : DS} {s : SL} (h : RowAt N D s) : RowAt N (D.readsJ 2) s :=
  ⟨h.n, h.n2, h.L, h.w, h.c, h.y, h.l, h.ok, h.may, h.sa, h.best⟩
theorem RowAt.new {N : Nat} {D D' : DS} {s t : SL} (h : RowAt N D s) (ht : t.Ok) (hm : t.May) (hta : t.a = (N : Int)) (hlt : s.c < t.c) {i : Nat} (hi : i < 2) (hp : t.c.tmod 2 = (i : Int)) (hn : D'.n = N) (hL : D'.L.length = N) (hw : ∀ j, D'.W j = []) (hc : D'.c = 0) (hy : ∀ j, bytes_ (D'.cur j)) (h1 : D'.cur i = encB t) (h2 : ∀ j, j < 2 → j ≠ i → D'.cur j = D.cur j) : RowAt N D' t :=
  ⟨hn, h.n2, hL, hw, hc, hy, fun j hj => by
    by_cases hji : j = i
    · subst hji; rw [h1]; exact encB_len ht
    · rw [h2 j hj hji]; exact h.l j hj, ht, hm, hta, best_new h.best ht hm hta hlt hi hp h1 h2⟩
theorem getD_set_ne {α : Type} (l : List α) {i j : Nat} (b d : α) (h : i ≠ j) : (l.set i b).getD j d = l.getD j d := by
  rw [List.getD_eq_getElem?_getD, List.getElem?_set_ne h, ← List.getD_eq_getElem?_getD]
end Go.Proofs.YtaflofcnjakaaaaDoor.M

namespace Go.Proofs.YtaflofcnjakaaaaDoor.M
open Go.RowKit Go.Maps Go.Proofs.YtaflofcnjakaaaaDoorW.PrintWords Go.Proofs.YtaflofcnjakaaaaDoorW.PrintLast Go.Proofs.YtaflofcnjakaaaaDoorW.PrintMore Go.Proofs.YtaflofcnjakaaaaDoor.Wr Go.Proofs.YtaflofcnjakaaaaDoor.Pl Go.Proofs.YtaflofcnjakaaaaDoor.P Go.Proofs.YtaflofcnjakaaaaDoor.A
set_option linter.unusedVariables false
set_option linter.unusedSimpArgs false
theorem and15 (n : Int) : bits .and .i64 n 15 = n % 16 := by
  have h127 : (BitVec.ofInt 64 15).toNat = 2 ^ 4 - 1 := by decide
  have key : (BitVec.ofInt 64 n &&& BitVec.ofInt 64 15).toNat = (n % ((2 ^ 64 : Nat) : Int)).toNat % 2 ^ 4 := by
    rw [BitVec.toNat_and, BitVec.toNat_ofInt, h127, Nat.and_two_pow_sub_one_eq_mod]
  show IntKind.i64.wrap ((BitVec.ofInt 64 n &&& BitVec.ofInt 64 15).toNat : Nat) = n % 16
  rw [key, IntKind.wrap_i64]
  omega
theorem and1' (n : Int) : bits .and .i64 n 1 = n % 2 := by
  have h127 : (BitVec.ofInt 64 1).toNat = 2 ^ 1 - 1 := by decide
  have key : (BitVec.ofInt 64 n &&& BitVec.ofInt 64 1).toNat = (n % ((2 ^ 64 : Nat) : Int)).toNat % 2 ^ 1 := by
    rw [BitVec.toNat_and, BitVec.toNat_ofInt, h127, Nat.and_two_pow_sub_one_eq_mod]
  show IntKind.i64.wrap ((BitVec.ofInt 64 n &&& BitVec.ofInt 64 1).toNat : Nat) = n % 2
  rw [key, IntKind.wrap_i64]
  omega
end Go.Proofs.YtaflofcnjakaaaaDoor.M

namespace Go.Proofs.YtaflofcnjakaaaaDoor.M
open Go.RowKit Go.Maps Go.Proofs.YtaflofcnjakaaaaDoorW.PrintWords Go.Proofs.YtaflofcnjakaaaaDoorW.PrintLast Go.Proofs.YtaflofcnjakaaaaDoorW.PrintMore Go.Proofs.YtaflofcnjakaaaaDoor.Wr Go.Proofs.YtaflofcnjakaaaaDoor.Pl Go.Proofs.YtaflofcnjakaaaaDoor.Z Go.Proofs.YtaflofcnjakaaaaDoor.A
set_option linter.unusedVariables false
set_option linter.unusedSimpArgs false
def rr12_T : Bool × List (List Nat × List Nat) := (true, [([], []), ([], []), ([], []), ([], []), ([2, 3], [2, 3]), ([4], [4]), ([5], [5]), ([0, 1, 6, 6], [0, 1, 6]), ([7], [7]), ([8], [8]), ([8], [8]), ([9, 7, 0, 1, 2, 3, 4, 5, 6, 7, 8, 9], [9])])
def rr12_B : List Nat := [0, 0, 0, 0, 12, 28, 60, 127, 255, 511, 511, 1023]
theorem rr12_tab : rtab .any (opsOf Tryd.f5 12) = rr12_T := by kernel_rfl
theorem rr12_bits : waitsOk rr12_T.2 rr12_B = true := by kernel_rfl
theorem size43r : (Tryd.prog.info? 43).map (·.size) = some 6 := by kernel_rfl
set_option maxHeartbeats 8000000 in
set_option maxRecDepth 100000 in
theorem rd_out (x : Int) (hx : ¬ (2 ≤ x ∧ x ≤ 65536)) (A : Option Addr) (l c : Nat) (w : World) : Calls Tryd.prog 5 #[.int .i64 x, .slice A l c] w fun e w' => e = .returned (.bool true) ∧ Below w.heap.size w w' := by
  have HN := Aside0.mk (fun W => new_none x W hx)
  have HR := Aside0.mk (fun W (L : List Th) (h : Sep w W L) => Sep.rNew h x 0 [] [] 0 0 0 30 (ref_new_no x (by omega)))
  clear hx
  go_enter Tryd.func5, Tryd.ntmps5
  go_upto_region 3 with (first
    | (go_at_call 15; (with_reducible refine (HN.out _).mono ?_); rintro e w2 ⟨rfl, rfl⟩)
    | (go_at_call 16; (with_reducible refine (HR.out _ _ (Sep.refl _)).mono ?_); rintro e w3 ⟨A1, c1, A2, c2, rfl, h⟩; have HS2 := Aside0.mk h; clear h))
  have HB := Aside0.mk (below_alloc HS2.out.below (.cells #[.int .i64 0, .slice A1 0 c1, .slice A2 0 c2, .int .i64 0, .int .i64 0, .int .i64 0] 43))
  clear HN HR HS2
  generalize w3.alloc (.cells #[.int .i64 0, .slice A1 0 c1, .slice A2 0 c2, .int .i64 0, .int .i64 0, .int .i64 0] 43) = w4 at HB ⊢
  by_cases hb : 4096 < x
  · have tb : decide (4096 < x) = true := decide_eq_true hb
    go_wp2
    go_ret
    exact ⟨rfl, HB.out⟩
  · have tb : decide (4096 < x) = false := decide_eq_false hb
    go_wp2
    go_ret
    exact ⟨rfl, HB.out⟩
set_option maxHeartbeats 8000000 in
set_option maxRecDepth 100000 in
theorem rd_big (n : Nat) (h2 : 2 ≤ n) (hm : n ≤ 65536) (hb : 4096 < n) (A : Option Addr) (l c : Nat) (w0 : World) : Calls Tryd.prog 5 #[.int .i64 (n : Int), .slice A l c] w0 fun e w' => e = .returned (.bool true) ∧ Below w0.heap.size w0 w' := by
  have HN := Aside0.mk (fun W (M : List Th) (h : Sep w0 W M) => (show Calls Tryd.prog 15 #[.int .i64 (n : Int)] W (fun e w' => ∃ g, e = .returned (.tuple #[.pointer (some ⟨g, 0, none⟩), .int .i64 0]) ∧ Sep w0 w' (dkT g (fD n) :: M)) from Sep.new h n h2 (by omega)))
  have HR := Aside0.mk (fun W (M : List Th) (h : Sep w0 W M) => Sep.rNew h (n : Int) (n : Int) [] [] 0 0 0 0 (ref_new_f n h2 (by omega)))
  have hb1 : (4096 : Int) < (n : Int) := by omega
  clear h2 hm hb
  go_enter Tryd.func5, Tryd.ntmps5
  have HS0 := Aside0.mk (Sep.refl w0)
  go_upto_region 3 with (first
    | (go_at_call 15; (with_reducible refine (HN.out _ _ HS0.out).mono ?_); rintro e w2 ⟨gd, rfl, h⟩; have HS1 := Aside0.mk h; clear h HS0)
    | (go_at_call 16; (with_reducible refine (HR.out _ _ HS1.out).mono ?_); rintro e w3 ⟨A1, c1, A2, c2, rfl, h⟩; have HS2 := Aside0.mk h; clear h HS1))
  have HS3 := Aside0.mk (HS2.out.push_alloc #[.int .i64 (n : Int), .slice A1 0 c1, .slice A2 0 c2, .int .i64 0, .int .i64 0, .int .i64 0] 43)
  clear HN HR HS2
  generalize w3.alloc (.cells #[.int .i64 (n : Int), .slice A1 0 c1, .slice A2 0 c2, .int .i64 0, .int .i64 0, .int .i64 0] 43) = w4 at HS3 ⊢
  generalize w3.heap.size = gw at HS3 ⊢
  go_wp2
  go_ret
  exact ⟨rfl, HS3.out.below⟩
set_option maxHeartbeats 16000000 in
set_option maxRecDepth 100000 in
theorem rd_yes {w0 : World} (hH : Wr.Half w0) (n : Nat) (h2 : 2 ≤ n) (h4 : n ≤ 4096) (A : Option Addr) (row : List T61) (c : Nat) (hC : Kd.C k61 w0 A row.length row) (hraw : ∀ y ∈ row, bytes_ y.raw) : Calls Tryd.prog 5 #[.int .i64 (n : Int), .slice A row.length c] w0 fun e w' => e = .returned (.bool true) ∧ Below w0.heap.size w0 w' := by
  have HN := Aside0.mk (fun W (M : List Th) (h : Sep w0 W M) => (show Calls Tryd.prog 15 #[.int .i64 (n : Int)] W (fun e w' => ∃ g, e = .returned (.tuple #[.pointer (some ⟨g, 0, none⟩), .int .i64 0]) ∧ Sep w0 w' (dkT g (fD n) :: M)) from Sep.new h n h2 (by omega)))
  have HR := Aside0.mk (fun W (M : List Th) (h : Sep w0 W M) => Sep.rNew h (n : Int) (n : Int) [] [] 0 0 0 0 (ref_new_f n h2 (by omega)))
  have h41 : (n : Int) ≤ 4096 := by omega
  have HHH := Aside0.mk hH
  have HNB := Aside0.mk (And.intro h2 h4)
  have HC := Aside0.mk hC
  have HRW := Aside0.mk hraw
  clear h2 h4 hH hC hraw
  go_enter Tryd.func5, Tryd.ntmps5
  have HS0 := Aside0.mk (Sep.refl w0)
  go_upto_region 3 with (first
    | (go_at_call 15; (with_reducible refine (HN.out _ _ HS0.out).mono ?_); rintro e w2 ⟨gd, rfl, h⟩; have HS1 := Aside0.mk h; clear h HS0)
    | (go_at_call 16; (with_reducible refine (HR.out _ _ HS1.out).mono ?_); rintro e w3 ⟨A1, c1, A2, c2, rfl, h⟩; have HS2 := Aside0.mk h; clear h HS1))
  have HS3 := Aside0.mk (HS2.out.push_alloc #[.int .i64 (n : Int), .slice A1 0 c1, .slice A2 0 c2, .int .i64 0, .int .i64 0, .int .i64 0] 43)
  clear HN HR HS2
  generalize w3.alloc (.cells #[.int .i64 (n : Int), .slice A1 0 c1, .slice A2 0 c2, .int .i64 0, .int .i64 0, .int .i64 0] 43) = w4 at HS3 ⊢
  generalize w3.heap.size = gw at HS3 ⊢
  go_upto_region 7 with (fail)
  have HSk := Aside0.mk (show Sep w0 w4 (cellsT gw #[.int .i64 (n : Int), .slice A1 0 c1, .slice A2 0 c2, .int .i64 0, .int .i64 0, .int .i64 0] 43 :: refT (.slice A1 0 c1) (.slice A2 0 c2) [] [] :: dkT gd (fD n) :: []) from HS3.out)
  clear HS3
  go_upto_region 8 with (fail)
  go_loopg [9] 8 (fun kq v9 wr => ∃ (i : Nat) (D : DS) (A1 A2 : Option Addr) (c1 c2 p q : Nat) (l1 l2 : List S106) (r wr1 fl : Int), v9 = .int .i64 i ∧ Aside0 (i + kq = 8) ∧ Aside0 (RdAt n D i ∧ Rl D l1 l2 ∧ l1.length = p ∧ l2.length = q ∧ p + q ≤ i) ∧ Aside0 (Sep w0 wr (cellsT gw #[.int .i64 (n : Int), .slice A1 p c1, .slice A2 q c2, .int .i64 r, .int .i64 wr1, .int .i64 fl] 43 :: refT (.slice A1 p c1) (.slice A2 q c2) l1 l2 :: dkT gd D :: [])))
  case atStart => exact ⟨0, fD n, A1, A2, c1, c2, 0, 0, [], [], 0, 0, 0, rfl, ⟨rfl⟩, ⟨RdAt.fresh HNB.out.1, Rl.fresh n, rfl, rfl, Nat.le_refl _⟩, HSk⟩
  case round =>
    clear HSk
    obtain ⟨i, D, A1, A2, c1, c2, p, q, l1, l2, r, wr1, fl, rfl, HJ, HD, hS⟩ := hrel
    by_cases hg : i < row.length ∧ i < 8
    · obtain ⟨hi, h8⟩ := hg
      have hi1 : (i : Int) < (row.length : Int) := by omega
      have hi2 : (i : Int) < 8 := by omega
      have t0 : decide ((i : Int) < (row.length : Int)) = true := decide_eq_true hi1
      have t1 : decide ((i : Int) < 8) = true := decide_eq_true hi2
      obtain ⟨hs, ad, A3, c3, rfl, hcell, l3, g3⟩ := at_T61 HC.out i hi
      have hTr : bytes_ (row.getD i z61).raw := HRW.out _ (by rw [List.getD_eq_getElem?_getD, List.getElem?_eq_getElem hi]; exact List.getElem_mem hi)
      generalize row.getD i z61 = T at hs hcell l3 g3 hTr
      have HBY := Aside0.mk (fun W (N : List Th) (h : Sep w0 W N) => Sep.bytesP (L := []) h T hs A3 c3 (fun W N _ h => Kd.C_below g3 h.below) ⟨N, by simp⟩ hTr l3)
      have HBL := Aside0.mk (bytB_len hs)
      have HBB := Aside0.mk (bytB_bytes hs hTr)
      have HPC := Aside0.mk (fun W (hb : Below w0.heap.size w0 W) => (show ∀ j v, (putC T A3 c3).toArray.toList[j]? = some v → W.cell? ((ad.add (i * 108)).add j) = some v from fun j v hv => by
        rw [Addr.add_add]
        exact pw_cell_below hb (hcell j v (by simpa using hv))))
      have HP0 := Aside0.mk (fun W (hb : Below w0.heap.size w0 W) => (show W.cell? (ad.add (i * 108)) = some (.int .i64 T.f0) from by
        have := pw_cell_below hb (hcell 0 (.int .i64 T.f0) rfl)
        rwa [Nat.add_zero] at this))
      have HSZP := Aside0.mk (show (Tryd.prog.info? 61).map (·.size) = some (putC T A3 c3).toArray.size from by
        rw [show (putC T A3 c3).toArray.size = 108 by simpa using putC_len hs A3 c3]; kernel_rfl)
      clear hs hcell l3 g3 hTr
      generalize (putC T A3 c3).toArray = PC at HBY HPC HSZP
      have aa := and1' T.f0
      obtain ⟨pn', hpn2, hpn⟩ : ∃ pn' : Nat, pn' < 2 ∧ T.f0 % 2 = (pn' : Int) := ⟨(T.f0 % 2).toNat, by omega, by omega⟩
      generalize T.f0 % 2 = pn at aa hpn
      have HPN := Aside0.mk (And.intro hpn2 hpn)
      have HGW := Aside0.mk (fun W (M : List Th) A1 c1 A2 c2 r wr fl Ae ce (h : Sep w0 W (refT (.slice A1 p c1) (.slice A2 q c2) l1 l2 :: M)) (hC : (Kd.int .u8).C W Ae 512 (bytB T)) (hc : 512 ≤ ce) => g_write (n := n) (r := r) (wr := wr) (fl := fl) HPN.out.2 (by have := HPN.out.1; have := HNB.out.1; omega) HBL.out HD.out.2.2.1 HD.out.2.2.2.1 (by have := HD.out.2.2.2.2; omega) h hC hc)
      have HDW := Aside0.mk (fun W (M : List Th) v (h : Sep w0 W (ownT (Kd.int .u8) 5 v (bytB T) :: dkT gd D :: M)) => (show Calls Tryd.prog 25 #[.pointer (some ⟨gd, 0, none⟩), .int .i64 pn, v] W (fun e w' => e = .returned (.int .i64 0) ∧ Sep w0 w' (ownT (Kd.int .u8) 5 v (bytB T) :: dkT gd (D.put pn' (bytB T)) :: M)) from by
        rw [HPN.out.2]
        exact Sep.write_own v (bytB T) h pn' (by rw [HD.out.1.n_]; have := HPN.out.1; have := HNB.out.1; omega) (by have := HD.out.1.c; omega) HBL.out))
      have HD2 := Aside0.mk (show RdAt n (D.put pn' (bytB T)) (i + 1) ∧ Rl (D.put pn' (bytB T)) l1 (l2 ++ [⟨(pn' : Int), bytB T⟩]) from ⟨HD.out.1.put pn' HBB.out HBL.out, HD.out.2.1.put pn' (by rw [HD.out.1.n_]; have := HPN.out.1; have := HNB.out.1; omega) (bytB T) HBL.out⟩)
      clear hpn hpn2
      have hx1 := HP0.out wr hS.out.below
      go_upto_region 11 with (fail)
      clear hx1
      go_upto_region 12 with (first
        | ((with_reducible refine gate_load (ty := 61) rfl ?_); refine wpList_ldw ?_ 61 _ rfl (ad.add (i * 108)) ?_ PC _ (HPC.out _ hS.out.below) Tryd.underlying61 rfl HSZP.out ?_; exact rfl; exact rfl; skip)
        | (go_at_call 26; (with_reducible refine (HBY.out _ _ hS.out).mono ?_); rintro e wa ⟨Ab, cb, rfl, hcb, h⟩; have HSa := Aside0.mk h; clear h hcb)
        | (go_at_call 25; (with_reducible refine (HDW.out _ _ _ (HSa.out.sel 4 [0, 3, 1, 2] _ rfl (by decide) rfl)).mono ?_); rintro e wx ⟨rfl, h⟩; have HSx := Aside0.mk h; clear h))
      have HSv := Aside0.mk (show Sep w0 wx (refT (.slice A1 p c1) (.slice A2 q c2) l1 l2 :: cellsT gw #[.int .i64 (n : Int), .slice A1 p c1, .slice A2 q c2, .int .i64 r, .int .i64 wr1, .int .i64 fl] 43 :: dkT gd (D.put pn' (bytB T)) :: []) from HSx.out.sel 4 [3, 2, 1] _ rfl (by decide) rfl)
      have HSy := Aside0.mk (HSv.out.step (below_drew1 (Below.refl wx.heap.size wx)))
      clear HSv HSx HSa hS
      refine start_ (n := 12) (S := fun W => (W.cell? ⟨gw, 0, none⟩ = some (.int .i64 (n : Int)) ∧ W.cell? ⟨gw, 1, none⟩ = some (.slice A1 p c1) ∧ W.cell? ⟨gw, 2, none⟩ = some (.slice A2 q c2) ∧ W.cell? ⟨gw, 3, none⟩ = some (.int .i64 r) ∧ W.cell? ⟨gw, 4, none⟩ = some (.int .i64 wr1) ∧ W.cell? ⟨gw, 5, none⟩ = some (.int .i64 fl)) ∧ (∀ j v, PC.toList[j]? = some v → W.cell? ((ad.add (i * 108)).add j) = some v)) (ds := [11]) (bb 12 0) (by kernel_rfl) rfl rfl (⟨rf_held HSy.out.up1, HPC.out _ HSy.out.below⟩) (fun hHeld => ?_); refine with_tabW rr12_tab rr12_bits (fun HT_ HW_ => ?_)
      generalize wx.drew = wd at hHeld HSy ⊢
      refine take_ (i := 0) (N := (some 66)) (v := ?_) (a' := ?_) (bb 12 1) rfl rfl (take_ofW HT_.out HW_.out (by kernel_rfl)) (fun _ _ _ h => h) (Or.inl ⟨by rfl, ?_⟩) hHeld ?_ ?_
      rotate_left
      · intro w' s0
        (try dsimp only at s0)
        go_simp
        with_reducible rfl
      rotate_left
      · simp only [Act.put, List.setIfInBounds_toArray, List.set_cons_zero, List.set_cons_succ, i64_w, i32_w]
        rfl
      refine pure_ (i := 1) (N := (some 67)) (v := ?_) (a' := ?_) (bb 12 3) rfl rfl (any_of HT_.out (by kernel_rfl)) (fun _ _ _ h => h) (Or.inl ⟨by rfl, ?_⟩) ?_ ?_
      rotate_left
      · intro w'
        go_simp
        with_reducible rfl
      rotate_left
      · simp only [Act.put, List.setIfInBounds_toArray, List.set_cons_zero, List.set_cons_succ, i64_w, i32_w]
        rfl
      refine pure_ (i := 2) (N := (some 68)) (v := ?_) (a' := ?_) (bb 12 7) rfl rfl (any_of HT_.out (by kernel_rfl)) (fun _ _ _ h => h) (Or.inl ⟨by rfl, ?_⟩) ?_ ?_
      rotate_left
      · intro w'
        go_simp
        with_reducible rfl
      rotate_left
      · simp only [Act.put, List.setIfInBounds_toArray, List.set_cons_zero, List.set_cons_succ, i64_w, i32_w]
        rfl
      refine pure_ (i := 3) (N := (some 69)) (v := ?_) (a' := ?_) (bb 12 15) rfl rfl (any_of HT_.out (by kernel_rfl)) (fun _ _ _ h => h) (Or.inl ⟨by rfl, ?_⟩) ?_ ?_
      rotate_left
      · intro w'
        go_simp
        with_reducible rfl
      rotate_left
      · simp only [Act.put, List.setIfInBounds_toArray, List.set_cons_zero, List.set_cons_succ, i64_w, i32_w]
        rfl
      refine pure_ (i := 4) (N := (some 70)) (v := ?_) (a' := ?_) (bb 12 31) rfl rfl (any_of HT_.out (by kernel_rfl)) (fun _ _ _ h => h) (Or.inl ⟨by rfl, ?_⟩) ?_ ?_
      rotate_left
      · intro w'
        go_simp
        with_reducible rfl
      rotate_left
      · simp only [Act.put, List.setIfInBounds_toArray, List.set_cons_zero, List.set_cons_succ, i64_w, i32_w]
        rfl
      refine take_ (i := 5) (N := (some 71)) (v := .agg PC) (a' := ?_) (bb 12 63) rfl rfl (take_ofW HT_.out HW_.out (by kernel_rfl)) (fun _ _ _ h => h) (Or.inl ⟨by rfl, fun w' s0 => yields_ld 61 _ rfl (ad.add (i * 108)) rfl PC _ s0.2 Tryd.underlying61 rfl HSZP.out⟩) hHeld ?_ ?_
      rotate_left
      · simp only [Act.put, List.setIfInBounds_toArray, List.set_cons_zero, List.set_cons_succ, i64_w, i32_w]
        rfl
      refine one_ (i := 6) (N := (some 72)) (bb 12 127) rfl rfl (one_of HT_.out (by kernel_rfl)) (by decide) (fun K hK => ?_)
      refine goes_ Tryd.func26 (by kernel_rfl) rfl #[.agg PC] (by rfl) rfl rfl (by (try simp only [List.map_toArray, List.map_cons, List.map_nil]); first | done | rfl) ?_
      with_reducible refine (HBY.out _ _ HSy.out).mono ?_
      rintro e wa ⟨Ab, cb, rfl, hcb, h⟩
      have HCB := Aside0.mk hcb
      have HSa := Aside0.mk h
      clear h hcb
      refine ⟨_, rfl, ?_⟩
      refine hK.out _ _ (⟨rf_held HSa.out.up2, HPC.out _ HSa.out.below⟩) (fun hHeld => ?_)
      clear hK K
      refine norm_ (a' := ?_) ?_ ?_
      rotate_left
      · show Act.put _ (some 72) _ = _
        simp only [Act.put, List.setIfInBounds_toArray, List.set_cons_zero, List.set_cons_succ, i64_w, i32_w]
        rfl
      refine one_ (i := 7) (N := (some 73)) (bb 12 255) rfl rfl (one_of HT_.out (by kernel_rfl)) (by decide) (fun K hK => ?_)
      refine goes_ Tryd.func20 (by kernel_rfl) rfl #[.agg #[.int .i64 (n : Int), .slice A1 p c1, .slice A2 q c2, .int .i64 r, .int .i64 wr1, .int .i64 fl], .int .i64 pn, .slice Ab 512 cb] (by rfl) rfl rfl (by (try simp only [List.map_toArray, List.map_cons, List.map_nil]); first | done | rfl) ?_
      have HC5 := Aside0.mk (show (Kd.int .u8).C wa Ab 512 (bytB T) from by have := HSa.out.own_C.1; rwa [HBL.out] at this)
      with_reducible refine (HGW.out _ _ _ _ _ _ _ _ _ _ _ HSa.out.up1 HC5.out HCB.out).mono ?_
      rintro e wb ⟨B1, d1, B2, d2, wr2, rfl, h⟩
      have HSb := Aside0.mk h
      clear h
      refine ⟨_, rfl, ?_⟩
      refine hK.out _ _ (⟨rf_held HSb.out.up2, HPC.out _ HSb.out.below⟩) (fun hHeld => ?_)
      clear hK K
      refine norm_ (a' := ?_) ?_ ?_
      rotate_left
      · show Act.put _ (some 73) _ = _
        simp only [Act.put, List.setIfInBounds_toArray, List.set_cons_zero, List.set_cons_succ, i64_w, i32_w]
        rfl
      refine pure_ (i := 8) (N := (some 65)) (v := ?_) (a' := ?_) (bb 12 511) rfl rfl (any_of HT_.out (by kernel_rfl)) (fun _ _ _ h => h) (Or.inl ⟨by rfl, ?_⟩) ?_ ?_
      rotate_left
      · intro w'
        go_simp
        with_reducible rfl
      rotate_left
      · simp only [Act.put, List.setIfInBounds_toArray, List.set_cons_zero, List.set_cons_succ, i64_w, i32_w]
        rfl
      refine pure_ (i := 9) (N := (some 74)) (v := ?_) (a' := ?_) (bb 12 1023) rfl rfl (any_of HT_.out (by kernel_rfl)) (fun _ _ _ h => h) (Or.inl ⟨by rfl, ?_⟩) ?_ ?_
      rotate_left
      · intro w'
        go_simp
        with_reducible rfl
      rotate_left
      · simp only [Act.put, List.setIfInBounds_toArray, List.set_cons_zero, List.set_cons_succ, i64_w, i32_w]
        rfl
      refine pure_ (i := 10) (N := (some 75)) (v := ?_) (a' := ?_) (bb 12 2047) rfl rfl (any_of HT_.out (by kernel_rfl)) (fun _ _ _ h => h) (Or.inl ⟨by rfl, ?_⟩) ?_ ?_
      rotate_left
      · intro w'
        go_simp
        with_reducible rfl
      rotate_left
      · simp only [Act.put, List.setIfInBounds_toArray, List.set_cons_zero, List.set_cons_succ, i64_w, i32_w]
        rfl
      refine last_ (i := 11) (N := none) (bb 12 4095) rfl rfl (one_of HT_.out (by kernel_rfl)) (by decide) (fun K hK => ?_)
      rw [if_pos (by rfl)]
      refine Sep.store_wp (cs := #[.int .i64 (n : Int), .slice B1 p d1, .slice B2 (q + 1) d2, .int .i64 r, .int .i64 wr2, .int .i64 fl]) 43 _ _ rfl rfl rfl HSb.out.up2 size43r rfl (all43 _ _ _ _ _ _ _ _ _ _) (fun wS h4 => ?_)
      have HSc := Aside0.mk h4
      clear h4
      refine hK.out _ _ ?_
      clear hK K
      refine norm_ (a' := ?_) ?_ ?_
      rotate_left
      · show Act.put _ none _ = _
        simp only [Act.put, List.setIfInBounds_toArray, List.set_cons_zero, List.set_cons_succ, i64_w, i32_w]
        rfl
      refine done_ (done_of HT_.out (by kernel_rfl)) ?_
      have HSd := Aside0.mk (show Sep w0 wS (cellsT gw #[.int .i64 (n : Int), .slice B1 p d1, .slice B2 (q + 1) d2, .int .i64 r, .int .i64 wr2, .int .i64 fl] 43 :: refT (.slice B1 p d1) (.slice B2 (q + 1) d2) l1 (l2 ++ [⟨(pn' : Int), bytB T⟩]) :: dkT gd (D.put pn' (bytB T)) :: []) from HSc.out.sel 4 [0, 1, 3] _ rfl (by decide) rfl)
      clear hHeld HT_ HW_ HSy HSa HSb HSc HC5 HCB HGW HDW HBY HPC HP0 HSZP aa
      have HL2 := Aside0.mk (show l1.length = p ∧ (l2 ++ [(⟨(pn' : Int), bytB T⟩ : S106)]).length = q + 1 ∧ p + (q + 1) ≤ i + 1 from ⟨HD.out.2.2.1, by rw [List.length_append, HD.out.2.2.2.1]; rfl, by have := HD.out.2.2.2.2; omega⟩)
      have HI8 := Aside0.mk h8
      generalize l2 ++ [⟨(pn' : Int), bytB T⟩] = l2' at *
      generalize D.put pn' (bytB T) = D' at *
      by_cases h3 : i = 3
      · subst h3
        obtain ⟨y0, y1, y2, y3, y4, y5⟩ := rf_held HSd.out
        go_upto_region 15 with (go_at_call 27; (with_reducible refine (Sep.flush HSd.out.up2).mono ?_); rintro e we ⟨⟨ve, rfl⟩, h⟩; have HSe := Aside0.mk h; clear h)
        clear y0 y1 y2 y3 y4 y5 HSd
        obtain ⟨y0, y1, y2, y3, y4, y5⟩ := rf_held HSe.out.up1
        go_wp2_with (first
          | (go_at_call 21; (with_reducible refine (g_flush HL2.out.1 HL2.out.2.1 (by have := HL2.out.2.2; omega) HSe.out.up2).mono ?_); rintro e wf ⟨E1, f1, E2, f2, fl2, rfl, h⟩; have HSf := Aside0.mk h; clear h)
          | ((with_reducible refine gate_store (ty := 43) rfl ?_); refine Sep.store_own (cs := #[.int .i64 (n : Int), .slice E1 (flushR l1 l2').length f1, .slice E2 0 f2, .int .i64 r, .int .i64 wr2, .int .i64 fl2]) rfl 43 _ _ rfl rfl rfl HSf.out.up2 size43r rfl (all43 _ _ _ _ _ _ _ _ _ _) ?_; intro wg h; have HSg := Aside0.mk h; clear h))
        go_roundg (gk - 1)
        case measure => have := HJ.out; omega
        case rel => exact ⟨4, D'.flush, E1, E2, f1, f2, _, 0, flushR l1 l2', [], r, wr2, fl2, rfl, ⟨by have := HJ.out; omega⟩, ⟨HD2.out.1.flush HNB.out.1, HD2.out.2.flush, rfl, rfl, by have := flushR_len l1 l2'; have := HL2.out; omega⟩, ⟨HSg.out.sel 3 [0, 1, 2] _ rfl (by decide) rfl⟩⟩
      · have h3' : ¬ (i : Int) = 3 := by omega
        have t3 : decide ((i : Int) = 3) = false := decide_eq_false h3'
        have t4 : ((i : Int) == 3) = false := by simpa using h3'
        go_wp2
        go_roundg (gk - 1)
        case measure => have := HJ.out; have := HI8.out; omega
        case rel => exact ⟨i + 1, D', B1, B2, d1, d2, p, q + 1, l1, l2', r, wr2, fl, rfl, ⟨by have := HJ.out; have := HI8.out; omega⟩, ⟨HD2.out.1, HD2.out.2, HL2.out.1, HL2.out.2.1, HL2.out.2.2⟩, HSd⟩
    · by_cases hi : i < row.length
      · have h8 : ¬ (i : Int) < 8 := by omega
        have t1 : decide ((i : Int) < 8) = false := decide_eq_false h8
        have hi1 : (i : Int) < (row.length : Int) := by omega
        have t0 : decide ((i : Int) < (row.length : Int)) = true := decide_eq_true hi1
        clear hg
        have HAC := Aside0.mk (fun W (M : List Th) (E : DS) (h : Sep w0 W (dkT gd E :: M)) => Sep.acts h)
        have HRD := Aside0.mk (fun W (M : List Th) (h : Sep w0 W (dkT gd D :: M)) => (show Calls Tryd.prog 28 #[.pointer (some ⟨gd, 0, none⟩)] W (fun e w' => e = .returned (.tuple #[.agg (readS (n : Int) D.cur).V.toArray, .int .i64 (readE (n : Int) D.cur)]) ∧ Sep w0 w' (dkT gd (D.readsJ 2) :: M)) from by
          have hk := Sep.readSlot h HHH.out (by rw [HD.out.1.n_]; exact HNB.out.1) HD.out.1.y HD.out.1.l
          rwa [HD.out.1.n_] at hk))
        have HR8 := Aside0.mk (fun W (M : List Th) (h : Sep w0 W (refT (.slice A1 p c1) (.slice A2 q c2) l1 l2 :: M)) => Sep.read18 (r := r) (wr := wr1) (fl := fl) h HD.out.2.1 HD.out.1.n_ HD.out.2.2.1 HD.out.2.2.2.1 (by have := HD.out.2.2.2.2; have := HJ.out; omega) HNB.out.1 HD.out.1.l HD.out.1.y)
        have HRN := Aside0.mk (fun W (M : List Th) (h : Sep w0 W M) => read_nil h)
        have hok : (readS (n : Int) D.cur).Ok := by
          unfold readS
          split
          · exact noSL_ok
          · exact bestJ_ok HD.out.1.y 2
        have HSZ := Aside0.mk (SlAt.sa hok)
        have HVA := Aside0.mk (SL.V_all (readS (n : Int) D.cur))
        have HEQ := Aside0.mk (fun W => eql_slot hok W)
        have hz := (zero_of_info (P := Tryd.prog) (t := 27) (v := .agg noSL.V.toArray) (n := 105) (by kernel_rfl)).1
        have HZV := Aside0.mk (show noSL.V.toArray.size = (readS (n : Int) D.cur).V.toArray.size from by simp only [List.size_toArray]; rw [SL.V_len noSL_ok, SL.V_len hok])
        have HSN := Aside0.mk (SlAt.sa noSL_ok)
        have HAN := Aside0.mk (SL.V_all noSL)
        have HLV := Aside0.mk (fun W (M : List Th) g (h : Sep w0 W (cellsT g (readS (n : Int) D.cur).V.toArray 27 :: M)) => (show ∀ j v, (readS (n : Int) D.cur).V.toArray.toList[j]? = some v → W.cell? ((⟨g, 0, none⟩ : Addr).add j) = some v from fun j v hv => seg_at h.cells.1 0 (readS (n : Int) D.cur).V (by rw [List.drop_zero]; exact List.take_of_length_le (Nat.le_refl _)) j v (by simpa using hv)))
        have HDr := Aside0.mk (show (D.readsJ 2).wr = D.wr ∧ (D.readsJ 2).fl = D.fl from ⟨rfl, rfl⟩)
        have HS := hS
        clear hok hS
        generalize (readS (n : Int) D.cur).V.toArray = V at HRD HR8 HSZ HVA HEQ HZV HLV
        generalize readE (n : Int) D.cur = re at HRD HR8
        generalize noSL.V.toArray = Z at hz HZV HRN HSN HAN
        generalize D.readsJ 2 = D2 at *
        go_upto_region 17 with (go_at_call 18; (with_reducible refine (HAC.out _ _ _ HS.out.up2).mono ?_); rintro e wa ⟨rfl, h⟩; have HSa := Aside0.mk h; clear h HS)
        have HSb := Aside0.mk (HSa.out.push_alloc #[.int .i64 D.r, .int .i64 D.wr, .int .i64 D.fl] 41)
        clear HSa
        generalize wa.alloc (.cells #[.int .i64 D.r, .int .i64 D.wr, .int .i64 D.fl] 41) = wb at HSb ⊢
        generalize wa.heap.size = ga at HSb ⊢
        go_upto_region 18 with (first
          | (go_at_call 28; (with_reducible refine (HRD.out _ _ HSb.out.up1).mono ?_); rintro e wc ⟨rfl, h⟩; have HSc := Aside0.mk h; clear h HSb)
          | ((with_reducible refine gate_store (ty := 27) rfl ?_); refine Sep.store_own rfl 27 _ _ rfl rfl rfl (HSc.out.push_alloc Z 27) HSZ.out HZV.out HVA.out ?_; intro wd h; have HSd := Aside0.mk h; clear h))
        generalize wc.heap.size = g12 at HSd ⊢
        clear HSc
        have HSd2 := Aside0.mk (show Sep w0 wd (cellsT gw #[.int .i64 (n : Int), .slice A1 p c1, .slice A2 q c2, .int .i64 r, .int .i64 wr1, .int .i64 fl] 43 :: refT (.slice A1 p c1) (.slice A2 q c2) l1 l2 :: dkT gd D2 :: cellsT g12 V 27 :: cellsT ga #[.int .i64 D.r, .int .i64 D.wr, .int .i64 D.fl] 41 :: []) from HSd.out.sel 5 [3, 4, 1, 0, 2] _ rfl (by decide) rfl)
        clear HSd
        obtain ⟨y0, y1, y2, y3, y4, y5⟩ := rf_held HSd2.out
        go_upto_region 19 with (first
          | (go_at_call 29; (with_reducible refine (HR8.out _ _ HSd2.out.up1).mono ?_); rintro e we ⟨rfl, h⟩; have HSe := Aside0.mk h; clear h)
          | ((with_reducible refine gate_store (ty := 27) rfl ?_); refine Sep.store_own rfl 27 _ _ rfl rfl rfl (HSe.out.push_alloc Z 27) HSZ.out HZV.out HVA.out ?_; intro wf h; have HSf := Aside0.mk h; clear h))
        generalize we.heap.size = g14 at HSf ⊢
        clear HSe HSd2 y0 y1 y2 y3 y4 y5
        go_upto_region 20 with (go_at_call 18; (with_reducible refine (HAC.out _ _ _ HSf.out.up3).mono ?_); rintro e wg ⟨rfl, h⟩; have HSg := Aside0.mk h; clear h HSf)
        have HSh := Aside0.mk (HSg.out.push_alloc #[.int .i64 D2.r, .int .i64 D2.wr, .int .i64 D2.fl] 41)
        clear HSg
        generalize wg.alloc (.cells #[.int .i64 D2.r, .int .i64 D2.wr, .int .i64 D2.fl] 41) = wh at HSh ⊢
        generalize wg.heap.size = g16 at HSh ⊢
        go_upto_region 21 with (first
          | (go_at_call 28; (with_reducible refine (HRN.out _ _ HSh.out).mono ?_); rintro e wi ⟨rfl, h⟩; have HSi := Aside0.mk h; clear h HSh)
          | ((with_reducible refine gate_store (ty := 27) rfl ?_); refine Sep.store_own rfl 27 _ _ rfl rfl rfl (HSi.out.push_alloc Z 27) HSN.out rfl HAN.out ?_; intro wj h; have HSj := Aside0.mk h; clear h))
        generalize wi.heap.size = g17 at HSj ⊢
        clear HSi
        have HSk := Aside0.mk (show Sep w0 wj (cellsT g12 V 27 :: cellsT g14 V 27 :: cellsT g16 #[.int .i64 D2.r, .int .i64 D2.wr, .int .i64 D2.fl] 41 :: cellsT ga #[.int .i64 D.r, .int .i64 D.wr, .int .i64 D.fl] 41 :: []) from HSj.out.sel 8 [6, 3, 1, 7] _ rfl (by decide) rfl)
        clear HSj
        have u1 : wj.cell? ⟨g16, 1, none⟩ = some (.int .i64 D.wr) := by rw [← HDr.out.1]; exact blk_cell HSk.out.up2.cells.1 1
        have u2 : wj.cell? ⟨g16, 2, none⟩ = some (.int .i64 D.fl) := by rw [← HDr.out.2]; exact blk_cell HSk.out.up2.cells.1 2
        have u3 : wj.cell? ⟨ga, 1, none⟩ = some (.int .i64 D.wr) := blk_cell HSk.out.up3.cells.1 1
        have u4 : wj.cell? ⟨ga, 2, none⟩ = some (.int .i64 D.fl) := blk_cell HSk.out.up3.cells.1 2
        go_wp2_with (first
          | ((with_reducible refine gate_load (ty := 27) rfl ?_); refine wpList_ldw ?_ 27 _ rfl ⟨g12, 0, none⟩ ?_ V _ (HLV.out _ _ _ HSk.out) Tryd.underlying27 rfl HSZ.out ?_; exact rfl; exact rfl; skip)
          | ((with_reducible refine gate_load (ty := 27) rfl ?_); refine wpList_ldw ?_ 27 _ rfl ⟨g14, 0, none⟩ ?_ V _ (HLV.out _ _ _ HSk.out.up1) Tryd.underlying27 rfl HSZ.out ?_; exact rfl; exact rfl; skip)
          | ((with_reducible refine gate_eql (t := 27) rfl ?_); refine wpList_eqlw ?_ 27 27 _ _ rfl V ?_ ?_ guard27 (HEQ.out _) ?_; exact rfl; exact rfl; exact rfl; skip))
        go_ret
        exact ⟨by first | rfl | simp, HSk.out.below⟩
      · have hi1 : ¬ (i : Int) < (row.length : Int) := by omega
        have t0 : decide ((i : Int) < (row.length : Int)) = false := decide_eq_false hi1
        clear hg
        have HAC := Aside0.mk (fun W (M : List Th) (E : DS) (h : Sep w0 W (dkT gd E :: M)) => Sep.acts h)
        have HRD := Aside0.mk (fun W (M : List Th) (h : Sep w0 W (dkT gd D :: M)) => (show Calls Tryd.prog 28 #[.pointer (some ⟨gd, 0, none⟩)] W (fun e w' => e = .returned (.tuple #[.agg (readS (n : Int) D.cur).V.toArray, .int .i64 (readE (n : Int) D.cur)]) ∧ Sep w0 w' (dkT gd (D.readsJ 2) :: M)) from by
          have hk := Sep.readSlot h HHH.out (by rw [HD.out.1.n_]; exact HNB.out.1) HD.out.1.y HD.out.1.l
          rwa [HD.out.1.n_] at hk))
        have HR8 := Aside0.mk (fun W (M : List Th) (h : Sep w0 W (refT (.slice A1 p c1) (.slice A2 q c2) l1 l2 :: M)) => Sep.read18 (r := r) (wr := wr1) (fl := fl) h HD.out.2.1 HD.out.1.n_ HD.out.2.2.1 HD.out.2.2.2.1 (by have := HD.out.2.2.2.2; have := HJ.out; omega) HNB.out.1 HD.out.1.l HD.out.1.y)
        have HRN := Aside0.mk (fun W (M : List Th) (h : Sep w0 W M) => read_nil h)
        have hok : (readS (n : Int) D.cur).Ok := by
          unfold readS
          split
          · exact noSL_ok
          · exact bestJ_ok HD.out.1.y 2
        have HSZ := Aside0.mk (SlAt.sa hok)
        have HVA := Aside0.mk (SL.V_all (readS (n : Int) D.cur))
        have HEQ := Aside0.mk (fun W => eql_slot hok W)
        have hz := (zero_of_info (P := Tryd.prog) (t := 27) (v := .agg noSL.V.toArray) (n := 105) (by kernel_rfl)).1
        have HZV := Aside0.mk (show noSL.V.toArray.size = (readS (n : Int) D.cur).V.toArray.size from by simp only [List.size_toArray]; rw [SL.V_len noSL_ok, SL.V_len hok])
        have HSN := Aside0.mk (SlAt.sa noSL_ok)
        have HAN := Aside0.mk (SL.V_all noSL)
        have HLV := Aside0.mk (fun W (M : List Th) g (h : Sep w0 W (cellsT g (readS (n : Int) D.cur).V.toArray 27 :: M)) => (show ∀ j v, (readS (n : Int) D.cur).V.toArray.toList[j]? = some v → W.cell? ((⟨g, 0, none⟩ : Addr).add j) = some v from fun j v hv => seg_at h.cells.1 0 (readS (n : Int) D.cur).V (by rw [List.drop_zero]; exact List.take_of_length_le (Nat.le_refl _)) j v (by simpa using hv)))
        have HDr := Aside0.mk (show (D.readsJ 2).wr = D.wr ∧ (D.readsJ 2).fl = D.fl from ⟨rfl, rfl⟩)
        have HS := hS
        clear hok hS
        generalize (readS (n : Int) D.cur).V.toArray = V at HRD HR8 HSZ HVA HEQ HZV HLV
        generalize readE (n : Int) D.cur = re at HRD HR8
        generalize noSL.V.toArray = Z at hz HZV HRN HSN HAN
        generalize D.readsJ 2 = D2 at *
        go_upto_region 17 with (go_at_call 18; (with_reducible refine (HAC.out _ _ _ HS.out.up2).mono ?_); rintro e wa ⟨rfl, h⟩; have HSa := Aside0.mk h; clear h HS)
        have HSb := Aside0.mk (HSa.out.push_alloc #[.int .i64 D.r, .int .i64 D.wr, .int .i64 D.fl] 41)
        clear HSa
        generalize wa.alloc (.cells #[.int .i64 D.r, .int .i64 D.wr, .int .i64 D.fl] 41) = wb at HSb ⊢
        generalize wa.heap.size = ga at HSb ⊢
        go_upto_region 18 with (first
          | (go_at_call 28; (with_reducible refine (HRD.out _ _ HSb.out.up1).mono ?_); rintro e wc ⟨rfl, h⟩; have HSc := Aside0.mk h; clear h HSb)
          | ((with_reducible refine gate_store (ty := 27) rfl ?_); refine Sep.store_own rfl 27 _ _ rfl rfl rfl (HSc.out.push_alloc Z 27) HSZ.out HZV.out HVA.out ?_; intro wd h; have HSd := Aside0.mk h; clear h))
        generalize wc.heap.size = g12 at HSd ⊢
        clear HSc
        have HSd2 := Aside0.mk (show Sep w0 wd (cellsT gw #[.int .i64 (n : Int), .slice A1 p c1, .slice A2 q c2, .int .i64 r, .int .i64 wr1, .int .i64 fl] 43 :: refT (.slice A1 p c1) (.slice A2 q c2) l1 l2 :: dkT gd D2 :: cellsT g12 V 27 :: cellsT ga #[.int .i64 D.r, .int .i64 D.wr, .int .i64 D.fl] 41 :: []) from HSd.out.sel 5 [3, 4, 1, 0, 2] _ rfl (by decide) rfl)
        clear HSd
        obtain ⟨y0, y1, y2, y3, y4, y5⟩ := rf_held HSd2.out
        go_upto_region 19 with (first
          | (go_at_call 29; (with_reducible refine (HR8.out _ _ HSd2.out.up1).mono ?_); rintro e we ⟨rfl, h⟩; have HSe := Aside0.mk h; clear h)
          | ((with_reducible refine gate_store (ty := 27) rfl ?_); refine Sep.store_own rfl 27 _ _ rfl rfl rfl (HSe.out.push_alloc Z 27) HSZ.out HZV.out HVA.out ?_; intro wf h; have HSf := Aside0.mk h; clear h))
        generalize we.heap.size = g14 at HSf ⊢
        clear HSe HSd2 y0 y1 y2 y3 y4 y5
        go_upto_region 20 with (go_at_call 18; (with_reducible refine (HAC.out _ _ _ HSf.out.up3).mono ?_); rintro e wg ⟨rfl, h⟩; have HSg := Aside0.mk h; clear h HSf)
        have HSh := Aside0.mk (HSg.out.push_alloc #[.int .i64 D2.r, .int .i64 D2.wr, .int .i64 D2.fl] 41)
        clear HSg
        generalize wg.alloc (.cells #[.int .i64 D2.r, .int .i64 D2.wr, .int .i64 D2.fl] 41) = wh at HSh ⊢
        generalize wg.heap.size = g16 at HSh ⊢
        go_upto_region 21 with (first
          | (go_at_call 28; (with_reducible refine (HRN.out _ _ HSh.out).mono ?_); rintro e wi ⟨rfl, h⟩; have HSi := Aside0.mk h; clear h HSh)
          | ((with_reducible refine gate_store (ty := 27) rfl ?_); refine Sep.store_own rfl 27 _ _ rfl rfl rfl (HSi.out.push_alloc Z 27) HSN.out rfl HAN.out ?_; intro wj h; have HSj := Aside0.mk h; clear h))
        generalize wi.heap.size = g17 at HSj ⊢
        clear HSi
        have HSk := Aside0.mk (show Sep w0 wj (cellsT g12 V 27 :: cellsT g14 V 27 :: cellsT g16 #[.int .i64 D2.r, .int .i64 D2.wr, .int .i64 D2.fl] 41 :: cellsT ga #[.int .i64 D.r, .int .i64 D.wr, .int .i64 D.fl] 41 :: []) from HSj.out.sel 8 [6, 3, 1, 7] _ rfl (by decide) rfl)
        clear HSj
        have u1 : wj.cell? ⟨g16, 1, none⟩ = some (.int .i64 D.wr) := by rw [← HDr.out.1]; exact blk_cell HSk.out.up2.cells.1 1
        have u2 : wj.cell? ⟨g16, 2, none⟩ = some (.int .i64 D.fl) := by rw [← HDr.out.2]; exact blk_cell HSk.out.up2.cells.1 2
        have u3 : wj.cell? ⟨ga, 1, none⟩ = some (.int .i64 D.wr) := blk_cell HSk.out.up3.cells.1 1
        have u4 : wj.cell? ⟨ga, 2, none⟩ = some (.int .i64 D.fl) := blk_cell HSk.out.up3.cells.1 2
        go_wp2_with (first
          | ((with_reducible refine gate_load (ty := 27) rfl ?_); refine wpList_ldw ?_ 27 _ rfl ⟨g12, 0, none⟩ ?_ V _ (HLV.out _ _ _ HSk.out) Tryd.underlying27 rfl HSZ.out ?_; exact rfl; exact rfl; skip)
          | ((with_reducible refine gate_load (ty := 27) rfl ?_); refine wpList_ldw ?_ 27 _ rfl ⟨g14, 0, none⟩ ?_ V _ (HLV.out _ _ _ HSk.out.up1) Tryd.underlying27 rfl HSZ.out ?_; exact rfl; exact rfl; skip)
          | ((with_reducible refine gate_eql (t := 27) rfl ?_); refine wpList_eqlw ?_ 27 27 _ _ rfl V ?_ ?_ guard27 (HEQ.out _) ?_; exact rfl; exact rfl; exact rfl; skip))
        go_ret
        exact ⟨by first | rfl | simp, HSk.out.below⟩
theorem reads_calls {w0 : World} (hH : Wr.Half w0) (x : Int) (A : Option Addr) (c : Nat) (row : List T61) (hC : Kd.C k61 w0 A row.length row) (hraw : ∀ y ∈ row, bytes_ y.raw) : Calls Tryd.prog 5 #[.int .i64 x, .slice A row.length c] w0 fun e w' => e = .returned (.bool true) ∧ Below w0.heap.size w0 w' := by
  by_cases hx : 2 ≤ x ∧ x ≤ 65536
  · obtain ⟨n, rfl⟩ : ∃ n : Nat, x = (n : Int) := ⟨x.toNat, by omega⟩
    by_cases hb : 4096 < n
    · exact rd_big n (by omega) (by omega) hb A _ c w0
    · exact rd_yes hH n (by omega) (by omega) A row c hC hraw
  · exact rd_out x hx A _ c w0
def readsF (k : Nat) (x : Int) (l : List T61) : Option Bool := if l.all (fun y => y.raw.all (fun b => decide (0 ≤ b ∧ b < 256))) = true then some true else none
theorem reads_pure (x : Int) (l : List T61) (_ : (Lit.int .i64 x).wf = true) (_ : l.length ≤ 9223372036854775807) (hw : ∀ y ∈ l, bytes_ y.raw) : ∃ k, readsF k x l = some true := by
  refine ⟨0, ?_⟩
  unfold readsF
  rw [if_pos]
  rw [List.all_eq_true]
  intro y hy
  rw [List.all_eq_true]
  intro b hb
  exact decide_eq_true (hw y hy b hb)
theorem reads18_row (k : Nat) (x : Int) (A : Option Addr) (c : Nat) (l : List T61) (v : Bool) (W : World) (hr : Kd.C k61 W A l.length l) (hc : l.length ≤ c) (hG : Wr.Half W) (h : readsF k x l = some v) :
    Calls Tryd.prog 5 #[.int .i64 x, .slice A l.length c] W fun e w' => e = .returned (.bool v) ∧ Below W.heap.size W w' := by
  unfold readsF at h
  split at h
  · rename_i hb
    cases h
    exact reads_calls hG x A c l hr (fun y hy b hb2 => by
      have h1 := List.all_eq_true.1 hb y hy
      have h2 := List.all_eq_true.1 h1 b hb2
      simpa using h2)
  · cases h
end Go.Proofs.YtaflofcnjakaaaaDoor.M

namespace Go.Proofs.YtaflofcnjakaaaaDoor.rootReads
open Go.ChangeShapes Go.WideShapes Go.ChangeAt Go.RowKit Go.Proofs.YtaflofcnjakaaaaDoorW.PrintWords Go.Proofs.YtaflofcnjakaaaaDoorW.PrintLast Go.Proofs.YtaflofcnjakaaaaDoorW.PrintMore Go.Proofs.YtaflofcnjakaaaaDoor.P Go.Proofs.YtaflofcnjakaaaaDoor.M Go.Proofs.YtaflofcnjakaaaaDoor.Wr Go.Proofs.YtaflofcnjakaaaaDoor.Pl Go.Proofs.YtaflofcnjakaaaaDoor.A
set_option linter.unusedVariables false
theorem own : ownKnob Tryd.prog.godebug = none := by kernel_rfl
theorem laidOut : laidOutB Tryd.prog = true := by kernel_rfl
theorem gTab : Tryd.prog.globalNamed "kiln/wire.half" = some 0 := by kernel_rfl
theorem gTabType : (Tryd.prog.globals[0]?).map (·.type) = some 129 := by kernel_rfl
theorem cellsTab : Tryd.prog.cellsOf 129 = 16 := by kernel_rfl
theorem cells90 : Tryd.prog.cellsOf 90 = 1 := by kernel_rfl
theorem half_of {W : World} (h : laidMetH Tryd.prog Rows.rootReadsRow.laid W) : Wr.Half W := by
  have t : Lib.TabIs Tryd.prog W "kiln/wire.half" .u32 [0, 498536548, 997073096, 651767980, 1994146192, 1802195444, 1303535960, 1342533948, 3988292384, 4027552580, 3604390888, 3412177804, 2607071920, 2262029012, 2685067896, 3183342108] := Lib.tabIs_of_head (rest := []) gTab gTabType Tryd.underlying129 Tryd.underlying90 cells90 cellsTab h
  intro i hi
  have hc := t.cell gTab i (by simpa using hi)
  have e : ∀ j : Fin 16, ([0, 498536548, 997073096, 651767980, 1994146192, 1802195444, 1303535960, 1342533948, 3988292384, 4027552580, 3604390888, 3412177804, 2607071920, 2262029012, 2685067896, 3183342108] : List Int)[j.1]? = some ((halfL.getD j.1 0 : Nat) : Int) := by decide
  have e2 := e ⟨i, hi⟩
  first
  | (rw [List.getD_eq_getElem?_getD, e2] at hc; exact hc)
  | (rw [List.getElem?_eq_some_iff] at e2; obtain ⟨_, e3⟩ := e2; rw [e3] at hc; exact hc)
def IsRow (k : IntKind) (w : World) (a : Option Addr) (len cap : Nat) (zs : List Int) : Prop :=
  (a = none ∧ len = 0 ∧ cap = 0 ∧ zs = []) ∨
  ∃ x, a = some x ∧ len ≤ cap ∧ cap ≤ maxLen ∧ zs.length = cap ∧ (∀ i, i < zs.length → w.cell? (x.add i) = some (.int k (zs.getD i 0))) ∧ ∀ n ∈ zs, (Lit.int k n).wf = true
set_option maxRecDepth 100000 in
theorem contract (H : Type) (enc : TypeId × Value → H) (W : World) (base : Nat) (args : Array Value) (ds gs : List (DataW H)) (before : List MemPlace)
    (hval : ∀ (j : Nat) t v, Tryd.f5.params[j]? = some t → args[j]? = some v → Value.okWide Tryd.prog W .any base t v)
    (hW : DataW.Whole enc Tryd.prog Tryd.f5.params.toList Rows.rootReadsSpec.vars false W args.toList ds gs before)
    (hsz0 : (DataW.weightsEach Tryd.prog (Tryd.f5.params.toList ++ Rows.rootReadsSpec.plain.varTypes Tryd.prog) (ds ++ gs)).all (· ≤ reachBytes) = true)
    (hL : laidMetH Tryd.prog Rows.rootReadsRow.laid W) :
    Calls Tryd.prog 5 args W fun e W' => ∃ v, e = .returned v ∧ Rows.rootReadsSpec.post enc Tryd.prog Tryd.f5 false true false false W args v W' := by
  have hG := half_of hL
  have hW' := hW
  have hsz : (DataW.weightsEach Tryd.prog (Tryd.f5.params.toList ++ Rows.rootReadsSpec.plain.varTypes Tryd.prog) (ds ++ gs)).all (· ≤ reachBytes) = true := hsz0
  obtain ⟨p, q, hA0, hV, rfl, hfz, hnd⟩ := hW
  have hA : DataW.TrodAll enc Tryd.prog W 0 (fun _ => true) true Tryd.f5.params.toList args.toList ds p := hA0
  rw [Tryd.params5] at hA hval hsz
  obtain ⟨v0, vs0, d0, ds0, p0, q0, hargs, rfl, rfl, h0, r0⟩ := trodAll_cons hA
  obtain ⟨v1, vs1, d1, ds1, p1, q1, rfl, rfl, rfl, h1, r1⟩ := trodAll_cons r0
  obtain ⟨rfl, rfl, rfl⟩ := trodAll_nil r1
  obtain rfl : args = #[v0, v1] := by cases args; simp_all
  obtain ⟨rfl, rfl⟩ := trodVars_none hV
  obtain ⟨a0, rfl, rfl, rfl, w0⟩ := open_int Tryd.underlying3 (hval 0 3 v0 rfl rfl) h0
  obtain ⟨a1, len1, cap1, rfl⟩ := okWide_slice Tryd.underlying59 (hval 1 59 v1 rfl rfl)
  have k1 := h1
  have lt1 : ∀ x ∈ p1, x.block < W.heap.size := by obtain ⟨m, hm⟩ := k1; exact DataW.trod_lt m _ _ _ hm
  obtain ⟨l1, rfl, hc1, hr1, hn1, hw1⟩ := BulkW.arg_59 h1 (BulkW.weights_at hsz 1 59 d1 rfl rfl)
  clear hA0 hsz0 hsz
  obtain ⟨k, h⟩ := M.reads_pure a0 l1 w0 (by omega) hw1
  refine (M.reads18_row k a0 _ _ l1 true W hr1 hc1 hG h).mono ?_
  rintro e W' ⟨rfl, bel⟩
  exact ⟨_, rfl, _, _, _, [], _, [], hW', trodAll_mk1 (shut_bool Tryd.underlying4 _), (trodAll_cons_mk (shut_int Tryd.underlying3 w0) (trodAll_cons_mk (Below.trod laidOut (by kernel_rfl) (of_decide_eq_true (by kernel_rfl)) k1 bel lt1) trodAll_mk0)), rfl, bel.frame _, fun h => by cases h⟩
noncomputable def laidWorld (os : Os) : World :=
  { World.holding Tryd.prog os ⟨#[], #[], []⟩ with heap := (World.holding Tryd.prog os ⟨#[], #[], []⟩).heap.modify 0 fun
      | .cells _ t frozen => .cells #[.int .u32 0, .int .u32 498536548, .int .u32 997073096, .int .u32 651767980, .int .u32 1994146192, .int .u32 1802195444, .int .u32 1303535960, .int .u32 1342533948, .int .u32 3988292384, .int .u32 4027552580, .int .u32 3604390888, .int .u32 3412177804, .int .u32 2607071920, .int .u32 2262029012, .int .u32 2685067896, .int .u32 3183342108] t frozen
      | o => o }
set_option maxRecDepth 100000 in
theorem laid_met (os : Os) : laidMet Tryd.prog Rows.rootReadsRow.laid ((laidWorld os).forCall (fun _ _ => 0) ⟨#[], #[.int .i64 0, .slice none 0 0], []⟩).memory :=
  laidMet_of_run' 8 (by kernel_rfl) (by kernel_rfl)
set_option maxRecDepth 100000 in
theorem reads (os : Os) {H : Type} (enc : TypeId × Value → H) : ∃ places, DataW.whole enc Tryd.prog ((laidWorld os).forCall (fun _ _ => 0) ⟨#[], #[.int .i64 0, .slice none 0 0], []⟩).memory Tryd.f5.params.toList Rows.rootReadsSpec.vars false (#[.int .i64 0, .slice none 0 0] : Array Value).toList 8 = some ([.lit (.int .i64 0), .nil], [], places) :=
  ⟨[], by kernel_rfl⟩
set_option maxRecDepth 100000 in
theorem lifted (os : Os) (started : os.Started) (H : Type) (enc : TypeId × Value → H) (F : Stop.Interp) :
    ReturnsInHanded {} Tryd.checked os 5 .any ((OpenSpec.ofChange Rows.rootReadsSpec).preRow enc Tryd.prog Tryd.f5 Rows.rootReadsRow.domain false Rows.rootReadsRow.laid) (((OpenSpec.ofChange Rows.rootReadsSpec).at F).post enc Tryd.prog Tryd.f5 false true false false) := by
  obtain ⟨places, hx⟩ := reads os enc
  refine returnsInHanded_of_row (C := Tryd.checked) (s := OpenSpec.ofChange Rows.rootReadsSpec) own started (by kernel_rfl) Tryd.func5
    (witness_row_at (enc := enc) (C := Tryd.checked) false (laidWorld os) #[.int .i64 0, .slice none 0 0] rfl (by kernel_rfl) (by kernel_rfl) (by kernel_rfl)
      (OpenSpec.preRow_of_cond 8 hx (by kernel_rfl) (fun k hk => by cases hk) (by kernel_rfl) (laid_met os))) ?_
  intro W base args ds gs before hval hW _ hcond hsz hL _ _
  exact contract H enc W base args ds gs before hval hW hsz hL
set_option maxRecDepth 100000 in
theorem said : Rows.RootReadsSaid :=
  OpenClaim.holds_of_cond 5 Tryd.f5 rfl rfl rfl rfl rfl rfl rfl ⟨rfl, rfl, rfl, rfl, rfl⟩ rfl rfl rfl rfl rfl (by kernel_rfl) Tryd.func5 (by kernel_rfl)
    (of_decide_eq_true (by kernel_rfl)) (by unfold Func.isWrapper; first | (rw [if_pos (by decide +kernel)]; kernel_rfl) | (rw [if_neg (by decide +kernel)]; exact ⟨rfl, rfl⟩))
    (fun os started H enc _ F => by rw [OpenClaim.pre_eq_preRow]; exact lifted os started H enc F)
theorem plain (f : FuncId) (fn : Func) (hf : Tryd.pinned.checked.prog.funcNamed "kiln/kilnlaw18.RootReads" = some f) (hfn : Tryd.pinned.checked.prog.funcs[f]? = some fn) :
    false = Tryd.pinned.checked.prog.looks [] ∧ ∀ (j : Nat) t, fn.params[j]? = some t → Tryd.pinned.checked.prog.wantsStandIn t = false := by
  obtain rfl : f = 5 := Option.some.inj ((show Tryd.prog.funcNamed "kiln/kilnlaw18.RootReads" = some 5 by kernel_rfl).symm.trans hf) |>.symm
  obtain rfl : fn = Tryd.f5 := (Option.some.inj (Tryd.func5.symm.trans hfn)).symm
  refine ⟨by kernel_rfl, fun j t ht => ?_⟩
  rw [Tryd.params5] at ht
  have hm : t ∈ [3, 59] := by simpa using Array.mem_of_getElem? ht
  have hall : ([3, 59].all fun u => !Tryd.prog.wantsStandIn u) = true := by kernel_rfl
  exact (show Tryd.prog.wantsStandIn t = false by simpa using List.all_eq_true.1 hall t hm)
set_option maxRecDepth 100000 in
theorem card : Rows.RootReadsCardSaid :=
  Claim7.holds_tied_plain_at .later [] _ _ _ _ said (fun _ h => by cases h) (by kernel_rfl) (fun _ h => by cases h) rootReads_row_tie rfl ⟨rfl, rfl⟩ (by kernel_rfl) rfl plain (by kernel_rfl)
#print axioms card
end Go.Proofs.YtaflofcnjakaaaaDoor.rootReads
namespace Go.Proofs.YtaflofcnjakaaaaDoor
theorem rootReads_card_holds : Rows.RootReadsCardSaid := rootReads.card
end Go.Proofs.YtaflofcnjakaaaaDoor
