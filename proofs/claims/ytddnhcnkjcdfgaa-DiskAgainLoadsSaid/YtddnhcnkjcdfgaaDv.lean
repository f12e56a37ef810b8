-- DiskAgainLoads: the plain law, the opener, for the row
import Derived.Test.YtddnhcnkjcdfgaaDu
import Derived.Test.YtddnhcnkjcdfgaaKo
namespace Go.Proofs.Ytddnhcnkjcdfgaa.Bulk
open Go.ChangeShapes Go.WideShapes Go.Proofs.YtddnhcnkjcdfgaaW.PrintWords Go.Proofs.Ytddnhcnkjcdfgaa.M
set_option linter.unusedVariables false
section
variable {H : Type} {enc : TypeId × Value → H} {W : World} {base : Nat} {spare : Nat → Bool} {held : Bool}

set_option maxRecDepth 100000 in
theorem arg_w {r : Reach} {b0 : Nat} {v : Value} {dd : DataW H} {ps : List MemPlace} (hv : Value.okWide Try.prog W r b0 30 v)
    (h : DataW.Trod enc Try.prog W base spare held 30 v dd ps) : ∃ (a : Int) (A : Option Addr) (l : List Int) (c : Nat), v = .agg #[.int .i64 a, .slice A l.length c] ∧ l.length ≤ c ∧ Kd.C (Kd.int .u8) W A l.length l := by
  obtain ⟨cs, rfl, hsz⟩ := okWide_struct Try.underlying30 hv
  obtain ⟨fuel, hf⟩ := h
  obtain ⟨y, hk, _⟩ := opens_30 _ _ _ hf
  obtain ⟨A, c, he, hl, hC⟩ := Go.Proofs.Ytddnhcnkjcdfgaa.P.k30_open hk
  refine ⟨y.f0, A, y.f1, c, ?_, hl, hC⟩
  have h1 : cs.toList = [.int .i64 y.f0, .slice A y.f1.length c] := he
  rw [← h1]
end
end Go.Proofs.Ytddnhcnkjcdfgaa.Bulk
namespace Go.Proofs.Ytddnhcnkjcdfgaa.M
open Go.RowKit Go.Proofs.YtddnhcnkjcdfgaaW.PrintWords Go.Proofs.YtddnhcnkjcdfgaaW.PrintLast Go.Proofs.YtddnhcnkjcdfgaaW.PrintMore
open Go.Proofs.Ytddnhcnkjcdfgaa.P
set_option linter.unusedVariables false
theorem rd_app (out : List S30) (x : S30) (j : Nat) (hj : j < out.length) : rd_T30 (out ++ [x]) (j : Int) = rd_T30 out (j : Int) := by
  unfold rd_T30
  rw [Int.toNat_natCast, List.getD_eq_getElem?_getD, List.getD_eq_getElem?_getD, List.getElem?_append_left hj]
theorem rd_app_last (out : List S30) (x : S30) : rd_T30 (out ++ [x]) (out.length : Int) = x := by
  unfold rd_T30
  rw [Int.toNat_natCast, List.getD_eq_getElem?_getD, List.getElem?_append_right (Nat.le_refl _), Nat.sub_self]
  rfl
theorem lastOf_app (out : List S30) (x : S30) (i : Int) : ∀ m, m ≤ out.length → lastOf (out ++ [x]) i m = lastOf out i m
  | 0, _ => rfl
  | m + 1, h => by
    unfold lastOf
    rw [rd_app out x m (by omega), lastOf_app out x i m (by omega)]
set_option maxRecDepth 100000 in
theorem again_all (a0 : Int) (A1 : Option Addr) (c1 : Nat) (l1 : List S30) (x0 : Int) (A2 : Option Addr) (c2 : Nat) (l2 : List Int) (w : World)
    (hr1 : Kd.C k30 w A1 l1.length l1) (hc1 : l1.length ≤ c1) (hr2 : Kd.C (Kd.int .u8) w A2 l2.length l2) (hc2 : l2.length ≤ c2) :
    Calls Try.prog 5 #[.int .i64 a0, .slice A1 l1.length c1, .agg #[.int .i64 x0, .slice A2 l2.length c2]] w fun e w' => e = .returned (.bool true) ∧ Below w.heap.size w w' := by
  obtain ⟨k, n, out, hk, h2, hm, hlen, hg⟩ := made_ok a0 l1
  obtain ⟨i0r, hi0r, hi00, hi01⟩ := mod_ok x0 (n : Int) (by omega) (by omega)
  obtain ⟨i0, rfl⟩ : ∃ i0 : Nat, i0r = (i0 : Int) := ⟨i0r.toNat, by omega⟩
  obtain ⟨t, ht, htl⟩ := sector_ok l2 0
  have hp : ∀ j, j < out.length → 0 ≤ (rd_T30 out (j : Int)).f0 := fun j hj => by
    obtain ⟨⟨i, _, e⟩, _⟩ := hg.at_ j hj
    omega
  have hL : ∀ i, i < n → ((runD n out (-1) out.length).flush).L.getD i [] = lastOf out (i : Int) out.length := fun i hi => by
    have h1 : ((runD n out (-1) out.length).flush).L.getD i [] = ((runD n out (-1) out.length).flush).cur i := rfl
    rw [h1, cur_flush _ _ (by rw [runD_n]; exact hi)]
    exact runD_cur n out (-1) hp i hi _ (Nat.le_refl _)
  refine again_calls k 513 a0 A1 c1 l1 x0 A2 c2 l2 w hr1 hc1 hr2 hc2 n out hk h2 hm hlen hg i0 hi0r (by omega) t ht htl _ rfl (fun i hi => ⟨out.length + 1, ?_⟩) (fun i hi => ⟨out.length + 1 + 1, ?_⟩)
  · rw [hL i hi]
    exact last_ok out (i : Int) (by omega) out.length (Nat.le_refl _)
  · have h_ := last_ok (out ++ [⟨(i0 : Int), t⟩]) (i : Int) (by simp; omega) (out.length + 1) (by simp)
    rw [show ((out.length + 1 : Nat) : Int) = wrap64 ((out.length : Int) + 1) from by rw [w64 _ (by omega) (by omega)]; rfl] at h_
    rw [h_, cur_flush _ _ (by show i < n; exact hi), cur_put]
    congr 1
    unfold lastOf
    rw [rd_app_last, lastOf_app out _ _ _ (Nat.le_refl _)]
    by_cases e : i = i0
    · subst e
      rw [if_pos rfl, if_pos rfl]
    · rw [if_neg (by show ¬ (i0 : Int) = (i : Int); omega), if_neg e]
      exact (hL i hi).symm
def againF (_k : Nat) (_a : Int) (_l : List S30) (_x : Int) (_b : List Int) : Option Bool := some true
theorem again_row (k : Nat) (a0 : Int) (A1 : Option Addr) (c1 : Nat) (l1 : List S30) (x0 : Int) (A2 : Option Addr) (c2 : Nat) (l2 : List Int) (r : Bool) (w : World)
    (hr1 : Kd.C k30 w A1 l1.length l1) (hc1 : l1.length ≤ c1) (hr2 : Kd.C (Kd.int .u8) w A2 l2.length l2) (hc2 : l2.length ≤ c2) (h : againF k a0 l1 x0 l2 = some r) :
    Calls Try.prog 5 #[.int .i64 a0, .slice A1 l1.length c1, .agg #[.int .i64 x0, .slice A2 l2.length c2]] w fun e w' => e = .returned (.bool r) ∧ Below w.heap.size w w' := by
  cases h
  exact again_all a0 A1 c1 l1 x0 A2 c2 l2 w hr1 hc1 hr2 hc2
theorem again_pure : ∀ (a0 : Int) (l1 : List S30) (x0 : Int) (l2 : List Int), (Lit.int .i64 a0).wf = true → l1.length ≤ 9223372036854775807 → True → ∃ k, againF k a0 l1 x0 l2 = some true := fun _ _ _ _ _ _ _ => ⟨0, rfl⟩
end Go.Proofs.Ytddnhcnkjcdfgaa.M
