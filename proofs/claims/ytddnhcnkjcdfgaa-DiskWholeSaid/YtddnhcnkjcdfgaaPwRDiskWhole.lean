/- DiskWhole. -/
import Derived.Test.YtddnhcnkjcdfgaaPwZ1
import Derived.SizedLaws
import Derived.ChangeSlices
import Derived.Test.YtddnhcnkjcdfgaaRows
import Derived.WalkKit
import Derived.ProofKit
import Derived.OpenShut
import Derived.ShutString
import Derived.ChangeOld
import Derived.Below
import Derived.Deep.DeepHandedRow
import Derived.Lib.LaidTab
namespace Go.Proofs.Ytddnhcnkjcdfgaa.M
open Go.RowKit Go.Maps Go.Proofs.YtddnhcnkjcdfgaaW.PrintWords Go.Proofs.YtddnhcnkjcdfgaaW.PrintLast Go.Proofs.YtddnhcnkjcdfgaaW.PrintMore
open Go.Proofs.Ytddnhcnkjcdfgaa.P
set_option linter.unusedVariables false
theorem crashL_len (s : DS) (fs : List Int) : ∀ j, (crashL s fs j).length = s.L.length
  | 0 => rfl
  | j + 1 => by
    unfold crashL
    split
    · rw [List.length_set]; exact crashL_len s fs j
    · exact crashL_len s fs j
theorem crashL_all (s : DS) (hW : ∀ i, i < s.n → (s.W i).length ≤ 1000) (hL : s.L.length = s.n) (i : Nat) (hi : i < s.n) : ∀ j, j ≤ s.keysN.length →
    (crashL s (List.replicate s.n 1000) j).getD i [] = if i ∈ s.keysN.take j then s.cur i else s.L.getD i []
  | 0, _ => by simp [crashL]
  | j + 1, hj => by
    have ih := crashL_all s hW hL i hi j (by omega)
    obtain ⟨hk1, hk2, _⟩ := key_at s j (by omega)
    have hkl := s.keysN_len
    have hf : (List.replicate s.n (1000 : Int)).getD j 0 = 1000 := by
      rw [List.getD_eq_getElem?_getD, List.getElem?_replicate, if_pos (by omega)]; rfl
    have hg : s.keysN.getD j 0 = s.keysN[j]'(by omega) := by rw [List.getD_eq_getElem?_getD, List.getElem?_eq_getElem (by omega)]; rfl
    unfold crashL
    rw [hf, if_pos (by decide), List.take_succ_eq_append_getElem (by omega), ← hg]
    have hlen := hW _ hk1
    have hpos : 0 < (s.W (s.keysN.getD j 0)).length := List.length_pos_iff.2 hk2
    have hm : (min (1000 : Int) ((s.W (s.keysN.getD j 0)).length : Int)).toNat - 1 = (s.W (s.keysN.getD j 0)).length - 1 := by omega
    rw [hm, ← cur_last hk2]
    by_cases e : s.keysN.getD j 0 = i
    · rw [e, List.getD_eq_getElem?_getD, List.getElem?_set_self (by rw [crashL_len, hL]; exact hi), if_pos (by simp)]
      rfl
    · rw [List.getD_eq_getElem?_getD, List.getElem?_set_ne e, ← List.getD_eq_getElem?_getD, ih]
      have e2 : (i ∈ s.keysN.take j ++ [s.keysN.getD j 0]) ↔ i ∈ s.keysN.take j := by
        rw [List.mem_append, List.mem_singleton]
        exact ⟨fun h => h.elim id (fun h => absurd h.symm e), .inl⟩
      simp only [e2]
theorem crash_all (s : DS) (hW : ∀ i, i < s.n → (s.W i).length ≤ 1000) (hL : s.L.length = s.n) (i : Nat) (hi : i < s.n) : (s.crash (List.replicate s.n 1000)).cur i = s.cur i := by
  have h1 : (s.crash (List.replicate s.n 1000)).cur i = (crashL s (List.replicate s.n 1000) (min s.keysN.length (List.replicate s.n (1000 : Int)).length)).getD i [] := rfl
  have hkl := s.keysN_len
  rw [h1, List.length_replicate, Nat.min_eq_left hkl, crashL_all s hW hL i hi _ (Nat.le_refl _), List.take_length]
  by_cases e : s.W i = []
  · rw [if_neg (fun h => ((s.mem_keysN i).1 h).2 e), cur_nil e]
  · rw [if_pos ((s.mem_keysN i).2 ⟨hi, e⟩)]
theorem rd_appL (a b : List S30) (j : Nat) (hj : j < a.length) : rd_T30 (a ++ b) (j : Int) = rd_T30 a (j : Int) := by
  unfold rd_T30
  rw [Int.toNat_natCast, List.getD_eq_getElem?_getD, List.getD_eq_getElem?_getD, List.getElem?_append_left hj]
theorem rd_appR (a b : List S30) (j : Nat) : rd_T30 (a ++ b) ((a.length + j : Nat) : Int) = rd_T30 b (j : Int) := by
  unfold rd_T30
  rw [Int.toNat_natCast, Int.toNat_natCast, List.getD_eq_getElem?_getD, List.getD_eq_getElem?_getD, List.getElem?_append_right (by omega), show a.length + j - a.length = j by omega]
theorem lastOf_appL (a b : List S30) (i : Int) : ∀ m, m ≤ a.length → lastOf (a ++ b) i m = lastOf a i m
  | 0, _ => rfl
  | m + 1, h => by
    unfold lastOf
    rw [rd_appL a b m (by omega), lastOf_appL a b i m (by omega)]
theorem puts_cur (s : DS) (a b : List S30) (i : Nat) (hs : s.cur i = lastOf a (i : Int) a.length) (hp : ∀ j, j < b.length → 0 ≤ (rd_T30 b (j : Int)).f0) : ∀ j, j ≤ b.length → (puts s b j).cur i = lastOf (a ++ b) (i : Int) (a.length + j)
  | 0, _ => by
    rw [Nat.add_zero, lastOf_appL a b _ _ (Nat.le_refl _)]
    exact hs
  | j + 1, h => by
    have ih := puts_cur s a b i hs hp j (by omega)
    have h0 := hp j (by omega)
    show ((puts s b j).put _ _).cur i = lastOf (a ++ b) (i : Int) (a.length + j + 1)
    rw [cur_put, ih]
    conv => rhs; unfold lastOf
    rw [rd_appR]
    by_cases e : (rd_T30 b (j : Int)).f0 = (i : Int)
    · rw [if_pos e, if_pos (by rw [e]; rfl)]
    · rw [if_neg e, if_neg (by omega)]
theorem puts_W (s : DS) (b : List S30) (i : Nat) : ∀ j, ((puts s b j).W i).length ≤ (s.W i).length + j
  | 0 => Nat.le_refl _
  | j + 1 => by
    have ih := puts_W s b i j
    show (if i = (rd_T30 b (j : Int)).f0.toNat then (puts s b j).W (rd_T30 b (j : Int)).f0.toNat ++ [(rd_T30 b (j : Int)).f1] else (puts s b j).W i).length ≤ _
    split
    · rename_i e
      rw [← e, List.length_append]
      simp
      omega
    · omega
theorem puts_L (s : DS) (b : List S30) : ∀ j, (puts s b j).L = s.L
  | 0 => rfl
  | j + 1 => puts_L s b j
theorem whole_great (n : Nat) (out1 out2 : List S30) (hl1 : out1.length ≤ 100) (hl2 : out2.length ≤ 100) (hg1 : Good n out1) (hg2 : Good n out2) (i : Nat) (hi : i < n) :
    ∃ kl, kilnlaw3_last.f kl (out1 ++ out2) (i : Int) ((out1.length : Int) + (out2.length : Int)) = some (((puts (runD n out1 (-1) out1.length).flush out2 out2.length).crash (List.replicate n 1000)).cur i) := by
  have hp : ∀ (o : List S30), Good n o → ∀ j, j < o.length → 0 ≤ (rd_T30 o (j : Int)).f0 := fun o hg j hj => by
    obtain ⟨⟨i, _, e⟩, _⟩ := hg.at_ j hj
    omega
  have hn : (puts (runD n out1 (-1) out1.length).flush out2 out2.length).n = n := by rw [puts_n]; exact runD_n n out1 (-1) out1.length
  have h0 : (runD n out1 (-1) out1.length).flush.cur i = lastOf out1 (i : Int) out1.length := by
    rw [cur_flush _ _ (by rw [runD_n]; exact hi)]
    exact runD_cur n out1 (-1) (hp out1 hg1) i hi _ (Nat.le_refl _)
  have hc := crash_all (puts (runD n out1 (-1) out1.length).flush out2 out2.length) (fun j hj => by have h_ := puts_W (runD n out1 (-1) out1.length).flush out2 j out2.length; have h2_ : ((runD n out1 (-1) out1.length).flush.W j).length = 0 := rfl; omega) (by rw [puts_L, hn]; show ((List.range (runD n out1 (-1) out1.length).n).map _).length = n; rw [List.length_map, List.length_range, runD_n]) i (by rw [hn]; exact hi)
  rw [hn] at hc
  refine ⟨out1.length + out2.length + 1, ?_⟩
  rw [hc, puts_cur _ out1 out2 i h0 (hp out2 hg2) out2.length (Nat.le_refl _)]
  exact last_ok (out1 ++ out2) (i : Int) (by rw [List.length_append]; omega) (out1.length + out2.length) (by rw [List.length_append]; omega)
theorem crashL_is (s : DS) (fs : List Int) (i : Nat) : ∀ j, j ≤ s.keysN.length → (crashL s fs j).getD i [] = s.L.getD i [] ∨ (crashL s fs j).getD i [] ∈ s.W i
  | 0, _ => .inl rfl
  | j + 1, hj => by
    have ih := crashL_is s fs i j (by omega)
    obtain ⟨hk1, hk2, _⟩ := key_at s j (by omega)
    have hpos : 0 < (s.W (s.keysN.getD j 0)).length := List.length_pos_iff.2 hk2
    unfold crashL
    split
    · rename_i hf
      by_cases e : s.keysN.getD j 0 = i
      · rw [e] at hpos ⊢
        by_cases hb : i < (crashL s fs j).length
        · right
          rw [List.getD_eq_getElem?_getD, List.getElem?_set_self hb]
          show (s.W i).getD _ [] ∈ s.W i
          rw [List.getD_eq_getElem?_getD, List.getElem?_eq_getElem (by omega)]
          exact List.getElem_mem _
        · rw [List.set_eq_of_length_le (by omega)]
          exact ih
      · rw [List.getD_eq_getElem?_getD, List.getElem?_set_ne e, ← List.getD_eq_getElem?_getD]
        exact ih
    · exact ih
theorem puts_mem (s : DS) (b : List S30) (i : Nat) (hs : s.W i = []) : ∀ j, j ≤ b.length → ∀ x ∈ (puts s b j).W i, ∃ m, m < b.length ∧ (rd_T30 b (m : Int)).f0.toNat = i ∧ (rd_T30 b (m : Int)).f1 = x
  | 0, _ => fun x hx => by rw [show (puts s b 0).W i = [] from hs] at hx; cases hx
  | j + 1, h => fun x hx => by
    have ih := puts_mem s b i hs j (by omega)
    have hx' : x ∈ (if i = (rd_T30 b (j : Int)).f0.toNat then (puts s b j).W (rd_T30 b (j : Int)).f0.toNat ++ [(rd_T30 b (j : Int)).f1] else (puts s b j).W i) := hx
    split at hx'
    · rename_i e
      rcases List.mem_append.1 hx' with h1 | h1
      · rw [← e] at h1; exact ih x h1
      · exact ⟨j, by omega, e.symm, (List.mem_singleton.1 h1).symm⟩
    · exact ih x hx'
theorem among_l0 (x0 : List Int) (b : List S30) (a : Int) (hN : b.length ≤ 1000) (m : Nat) (hm : m < b.length) (h0 : (rd_T30 b (m : Int)).f0 = a) (h1 : (rd_T30 b (m : Int)).f1 = x0) : ∀ d j, j + d = m → kilnlaw3_among.l0 (d + 1) x0 b a (j : Int) = some true
  | 0, j, e => by
    obtain rfl : j = m := by omega
    unfold kilnlaw3_among.l0
    rw [if_pos (by omega), if_pos (by omega), if_pos h0, if_pos (by rw [h1])]
  | d + 1, j, e => by
    unfold kilnlaw3_among.l0
    have ih := among_l0 x0 b a hN m hm h0 h1 d (j + 1) (by omega)
    rw [if_pos (by omega), if_pos (by omega), w64 _ (by omega) (by omega)]
    split
    · split
      · rfl
      · exact ih
    · exact ih
theorem whole_among (n : Nat) (out1 out2 : List S30) (fs : List Int) (hl2 : out2.length ≤ 100) (hg2 : Good n out2) (i : Nat) (hi : i < n) :
    ∃ ka, kilnlaw3_among.f ka (((puts (runD n out1 (-1) out1.length).flush out2 out2.length).crash fs).L.getD i []) ((runD n out1 (-1) out1.length).flush.L.getD i []) out2 (i : Int) = some true := by
  have h := crashL_is (puts (runD n out1 (-1) out1.length).flush out2 out2.length) fs i (min (puts (runD n out1 (-1) out1.length).flush out2 out2.length).keysN.length fs.length) (Nat.min_le_left _ _)
  have e : ((puts (runD n out1 (-1) out1.length).flush out2 out2.length).crash fs).L = crashL (puts (runD n out1 (-1) out1.length).flush out2 out2.length) fs (min (puts (runD n out1 (-1) out1.length).flush out2 out2.length).keysN.length fs.length) := rfl
  rw [← e, puts_L] at h
  rcases h with h | h
  · refine ⟨0, ?_⟩
    unfold kilnlaw3_among.f
    rw [if_pos (by rw [h])]
  · obtain ⟨m, hm, h0, h1⟩ := puts_mem _ out2 i rfl _ (Nat.le_refl _) _ h
    refine ⟨m + 1, ?_⟩
    unfold kilnlaw3_among.f
    split
    · rfl
    · obtain ⟨⟨i', _, e'⟩, _⟩ := hg2.at_ m hm
      exact among_l0 _ out2 (i : Int) (by omega) m hm (by rw [e'] at h0 ⊢; omega) h1 m 0 (by omega)
def wholeF (_k : Nat) (_a : Int) (_l _m : List S30) (_f : List Int) : Option Bool := some true
theorem whole_row (k : Nat) (a0 : Int) (A1 : Option Addr) (c1 : Nat) (l1 : List S30) (A2 : Option Addr) (c2 : Nat) (l2 : List S30) (A3 : Option Addr) (c3 : Nat) (fs : List Int) (r : Bool) (w : World)
    (hr1 : Kd.C k30 w A1 l1.length l1) (hc1 : l1.length ≤ c1) (hr2 : Kd.C k30 w A2 l2.length l2) (hc2 : l2.length ≤ c2) (hr3 : Kd.C (Kd.int .i64) w A3 fs.length fs) (hc3 : fs.length ≤ c3) (h : wholeF k a0 l1 l2 fs = some r) :
    Calls Try.prog 9 #[.int .i64 a0, .slice A1 l1.length c1, .slice A2 l2.length c2, .slice A3 fs.length c3] w fun e w' => e = .returned (.bool r) ∧ Below w.heap.size w w' := by
  cases h
  obtain ⟨n, hn2, hnm, hm⟩ := made_ok2 a0
  obtain ⟨k1, out1, h1, hl1, hg1⟩ := hm l1
  obtain ⟨k2, out2, h2, hl2, hg2⟩ := hm l2
  exact whole_calls k1 k2 a0 A1 c1 l1 A2 c2 l2 A3 c3 fs w hr1 hc1 hr2 hc2 hr3 hc3 n out1 out2 h1 h2 hn2 hnm hl1 hl2 hg1 hg2 (fun i hi => whole_great n out1 out2 hl1 hl2 hg1 hg2 i hi) (fun i hi => whole_among n out1 out2 fs hl2 hg2 i hi)
theorem whole_pure : ∀ (a0 : Int) (l1 l2 : List S30) (fs : List Int), (Lit.int .i64 a0).wf = true → l1.length ≤ 9223372036854775807 → True → l2.length ≤ 9223372036854775807 → True → fs.length ≤ 9223372036854775807 → (∀ n ∈ fs, (Lit.int .i64 n).wf = true) → ∃ k, wholeF k a0 l1 l2 fs = some true := fun _ _ _ _ _ _ _ _ _ _ _ => ⟨0, rfl⟩
end Go.Proofs.Ytddnhcnkjcdfgaa.M

namespace Go.Proofs.YtddnhcnkjcdfgaaW.PrintWords
open Go.ChangeShapes Go.WideShapes
theorem sized_ints {H : Type} {enc : TypeId × Value → H} {P : Program} {W : World} {base : Nat} {spare : Nat → Bool} {held : Bool} {t e : TypeId} {k : IntKind} {a : Option Addr} {len cap : Nat} {d : DataW H} {ps : List MemPlace} {ts : List TypeId} {ds : List (DataW H)} {j : Nat}
    (hsz : (DataW.weightsEach P ts ds).all (· ≤ reachBytes) = true) (ht : ts[j]? = some t) (hd : ds[j]? = some d) (hu : P.underlying t = some (.slice e)) (he : P.underlying e = some (.int k)) (hc : P.cellsOf e = 1) {B : Nat} (hB : P.bytesOf e = B)
    (h : DataW.Trod enc P W base spare held t (.slice a len cap) d ps) : len * B ≤ 140737488351232 := by
  obtain ⟨fuel, hf⟩ := h
  rcases open_ints hu he hc hf with ⟨hcs, _⟩ | ⟨x, l, c, zs, hcs, _, hl, _, hz, hx, _, _⟩
  · simp [Value.cells] at hcs
    obtain ⟨rfl, rfl, rfl⟩ := hcs
    simp
  · simp [Value.cells] at hcs
    obtain ⟨rfl, rfl, rfl⟩ := hcs
    obtain ⟨hx, _⟩ := Prod.mk.inj hx
    subst hx
    have z := sized_slice hsz ht hd hu
    rw [hB] at z
    have hl2 : len ≤ zs.length := by
      rw [hz]
      split
      · exact hl
      · exact Nat.le_refl _
    have h1 : (lits (H := H) k (zs.take len)).length + (lits (H := H) k (zs.drop len)).length = zs.length := by
      simp [lits]
      omega
    rw [h1] at z
    exact Nat.le_trans (Nat.mul_le_mul_right _ hl2) z
end Go.Proofs.YtddnhcnkjcdfgaaW.PrintWords

namespace Go.Proofs.Ytddnhcnkjcdfgaa.diskWhole
open Go.ChangeShapes Go.WideShapes Go.ChangeAt Go.RowKit Go.Proofs.YtddnhcnkjcdfgaaW.PrintWords Go.Proofs.YtddnhcnkjcdfgaaW.PrintLast Go.Proofs.YtddnhcnkjcdfgaaW.PrintMore Go.Proofs.Ytddnhcnkjcdfgaa.P Go.Proofs.Ytddnhcnkjcdfgaa.M
set_option linter.unusedVariables false
theorem own : ownKnob Try.prog.godebug = none := by kernel_rfl
theorem laidOut : laidOutB Try.prog = true := by kernel_rfl
def IsRow (k : IntKind) (w : World) (a : Option Addr) (len cap : Nat) (zs : List Int) : Prop :=
  (a = none ∧ len = 0 ∧ cap = 0 ∧ zs = []) ∨
  ∃ x, a = some x ∧ len ≤ cap ∧ cap ≤ maxLen ∧ zs.length = cap ∧ (∀ i, i < zs.length → w.cell? (x.add i) = some (.int k (zs.getD i 0))) ∧ ∀ n ∈ zs, (Lit.int k n).wf = true
set_option maxRecDepth 100000 in
theorem contract (H : Type) (enc : TypeId × Value → H) (W : World) (base : Nat) (args : Array Value) (ds gs : List (DataW H)) (before : List MemPlace)
    (hval : ∀ (j : Nat) t v, Try.f9.params[j]? = some t → args[j]? = some v → Value.okWide Try.prog W .any base t v)
    (hW : DataW.Whole enc Try.prog Try.f9.params.toList Rows.diskWholeSpec.vars false W args.toList ds gs before)
    (hsz0 : (DataW.weightsEach Try.prog (Try.f9.params.toList ++ Rows.diskWholeSpec.plain.varTypes Try.prog) (ds ++ gs)).all (· ≤ reachBytes) = true)
    (hL : laidMetH Try.prog Rows.diskWholeRow.laid W) :
    Calls Try.prog 9 args W fun e W' => ∃ v, e = .returned v ∧ Rows.diskWholeSpec.post enc Try.prog Try.f9 false true false false W args v W' := by
  have hW' := hW
  have hsz : (DataW.weightsEach Try.prog (Try.f9.params.toList ++ Rows.diskWholeSpec.plain.varTypes Try.prog) (ds ++ gs)).all (· ≤ reachBytes) = true := hsz0
  obtain ⟨p, q, hA0, hV, rfl, hfz, hnd⟩ := hW
  have hA : DataW.TrodAll enc Try.prog W 0 (fun _ => true) true Try.f9.params.toList args.toList ds p := hA0
  rw [Try.params9] at hA hval hsz
  obtain ⟨v0, vs0, d0, ds0, p0, q0, hargs, rfl, rfl, h0, r0⟩ := trodAll_cons hA
  obtain ⟨v1, vs1, d1, ds1, p1, q1, rfl, rfl, rfl, h1, r1⟩ := trodAll_cons r0
  obtain ⟨v2, vs2, d2, ds2, p2, q2, rfl, rfl, rfl, h2, r2⟩ := trodAll_cons r1
  obtain ⟨v3, vs3, d3, ds3, p3, q3, rfl, rfl, rfl, h3, r3⟩ := trodAll_cons r2
  obtain ⟨rfl, rfl, rfl⟩ := trodAll_nil r3
  obtain rfl : args = #[v0, v1, v2, v3] := by cases args; simp_all
  obtain ⟨rfl, rfl⟩ := trodVars_none hV
  obtain ⟨a0, rfl, rfl, rfl, w0⟩ := open_int Try.underlying3 (hval 0 3 v0 rfl rfl) h0
  obtain ⟨a1, len1, cap1, rfl⟩ := okWide_slice Try.underlying22 (hval 1 22 v1 rfl rfl)
  have k1 := h1
  have lt1 : ∀ x ∈ p1, x.block < W.heap.size := by obtain ⟨m, hm⟩ := k1; exact DataW.trod_lt m _ _ _ hm
  obtain ⟨l1, rfl, hc1, hr1, hn1, hw1⟩ := Bulk.arg_22 h1
  obtain ⟨a2, len2, cap2, rfl⟩ := okWide_slice Try.underlying22 (hval 2 22 v2 rfl rfl)
  have k2 := h2
  have lt2 : ∀ x ∈ p2, x.block < W.heap.size := by obtain ⟨m, hm⟩ := k2; exact DataW.trod_lt m _ _ _ hm
  obtain ⟨l2, rfl, hc2, hr2, hn2, hw2⟩ := Bulk.arg_22 h2
  obtain ⟨a3, len3, cap3, rfl⟩ := okWide_slice Try.underlying51 (hval 3 51 v3 rfl rfl)
  have k3 := h3
  have lt3 : ∀ x ∈ p3, x.block < W.heap.size := by obtain ⟨m, hm⟩ := k3; exact DataW.trod_lt m _ _ _ hm
  obtain ⟨z3, w3⟩ : ∃ zs, IsRow .i64 W a3 len3 cap3 zs := by
    obtain ⟨fuel, hf⟩ := h3
    rcases open_ints Try.underlying51 Try.underlying3 (by kernel_rfl) hf with ⟨hcs, _⟩ | ⟨x, l, c, zs, hcs, _, hl, hm, hz, _, hcell, hwz⟩
    · simp [Value.cells] at hcs
      obtain ⟨rfl, rfl, rfl⟩ := hcs
      exact ⟨[], .inl ⟨rfl, rfl, rfl, rfl⟩⟩
    · simp [Value.cells] at hcs
      obtain ⟨rfl, rfl, rfl⟩ := hcs
      exact ⟨zs, .inr ⟨_, rfl, hl, hm, by simpa using hz, hcell, hwz⟩⟩
  have y3 : len3 * 8 ≤ 140737488351232 := Go.Proofs.YtddnhcnkjcdfgaaW.PrintWords.sized_ints hsz (j := 3) (t := 51) rfl rfl Try.underlying51 Try.underlying3 (by kernel_rfl) (by kernel_rfl) h3
  obtain ⟨l3, rfl, hr3, hm3, hw3, hc3⟩ := ReadsInt.ofRowC w3
  clear hA0 hsz0 hsz
  obtain ⟨k, h⟩ := M.whole_pure a0 l1 l2 l3 w0 (by omega) hw1 (by omega) hw2 (by omega) hw3
  refine (M.whole_row k a0 _ _ l1 _ _ l2 _ _ l3 true W hr1 hc1 hr2 hc2 (Kd.C_of_reads (d := (0 : Int)) (h1 := fun _ => rfl) hr3) hc3 h).mono ?_
  rintro e W' ⟨rfl, bel⟩
  exact ⟨_, rfl, _, _, _, [], _, [], hW', trodAll_mk1 (shut_bool Try.underlying4 _), (trodAll_cons_mk (shut_int Try.underlying3 w0) (trodAll_cons_mk (Below.trod laidOut (by kernel_rfl) (of_decide_eq_true (by kernel_rfl)) k1 bel lt1) (trodAll_cons_mk (Below.trod laidOut (by kernel_rfl) (of_decide_eq_true (by kernel_rfl)) k2 bel lt2) (trodAll_cons_mk (Below.trod laidOut (by kernel_rfl) (of_decide_eq_true (by kernel_rfl)) k3 bel lt3) trodAll_mk0)))), rfl, bel.frame _, fun h => by cases h⟩
noncomputable def laidWorld (os : Os) : World := World.holding Try.prog os ⟨#[], #[], []⟩
theorem laid_met (os : Os) : laidMet Try.prog Rows.diskWholeRow.laid ((laidWorld os).forCall (fun _ _ => 0) ⟨#[], #[.int .i64 0, .slice none 0 0, .slice none 0 0, .slice none 0 0], []⟩).memory :=
  laidMet_of_run' 8 (by kernel_rfl) (by kernel_rfl)
theorem reads (os : Os) {H : Type} (enc : TypeId × Value → H) : ∃ places, DataW.whole enc Try.prog ((laidWorld os).forCall (fun _ _ => 0) ⟨#[], #[.int .i64 0, .slice none 0 0, .slice none 0 0, .slice none 0 0], []⟩).memory Try.f9.params.toList Rows.diskWholeSpec.vars false (#[.int .i64 0, .slice none 0 0, .slice none 0 0, .slice none 0 0] : Array Value).toList 8 = some ([.lit (.int .i64 0), .nil, .nil, .nil], [], places) :=
  ⟨[], by kernel_rfl⟩
set_option maxRecDepth 100000 in
theorem lifted (os : Os) (started : os.Started) (H : Type) (enc : TypeId × Value → H) (F : Stop.Interp) :
    ReturnsInHanded {} Try.checked os 9 .any ((OpenSpec.ofChange Rows.diskWholeSpec).preRow enc Try.prog Try.f9 Rows.diskWholeRow.domain false Rows.diskWholeRow.laid) (((OpenSpec.ofChange Rows.diskWholeSpec).at F).post enc Try.prog Try.f9 false true false false) := by
  obtain ⟨places, hx⟩ := reads os enc
  refine returnsInHanded_of_row (C := Try.checked) (s := OpenSpec.ofChange Rows.diskWholeSpec) own started (by kernel_rfl) Try.func9
    (witness_row_at (enc := enc) (C := Try.checked) false (laidWorld os) #[.int .i64 0, .slice none 0 0, .slice none 0 0, .slice none 0 0] rfl (by kernel_rfl) (by kernel_rfl) (by kernel_rfl)
      (OpenSpec.preRow_of_cond 8 hx (by kernel_rfl) (fun k hk => by cases hk) (by kernel_rfl) (laid_met os))) ?_
  intro W base args ds gs before hval hW _ hcond hsz hL _ _
  exact contract H enc W base args ds gs before hval hW hsz hL
theorem said : Rows.DiskWholeSaid :=
  OpenClaim.holds_of_cond 9 Try.f9 rfl rfl rfl rfl rfl rfl rfl ⟨rfl, rfl, rfl, rfl, rfl⟩ rfl rfl rfl rfl rfl (by kernel_rfl) Try.func9 (by kernel_rfl)
    (of_decide_eq_true (by kernel_rfl)) (by unfold Func.isWrapper; first | (rw [if_pos (by decide +kernel)]; kernel_rfl) | (rw [if_neg (by decide +kernel)]; exact ⟨rfl, rfl⟩))
    (fun os started H enc _ F => by rw [OpenClaim.pre_eq_preRow]; exact lifted os started H enc F)
#print axioms said
end Go.Proofs.Ytddnhcnkjcdfgaa.diskWhole
namespace Go.Proofs.Ytddnhcnkjcdfgaa
theorem diskWhole_holds : Rows.DiskWholeSaid := diskWhole.said
end Go.Proofs.Ytddnhcnkjcdfgaa
