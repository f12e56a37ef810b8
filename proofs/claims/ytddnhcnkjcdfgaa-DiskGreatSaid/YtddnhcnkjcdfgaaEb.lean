-- DiskGreat: what is written, and what stands behind a crash (plain)
import Derived.Test.YtddnhcnkjcdfgaaEa
import Derived.Test.YtddnhcnkjcdfgaaSb
import Derived.Test.YtddnhcnkjcdfgaaDz
namespace Go.Proofs.Ytddnhcnkjcdfgaa.M
open Go.RowKit Go.Maps Go.Proofs.YtddnhcnkjcdfgaaW.PrintWords Go.Proofs.YtddnhcnkjcdfgaaW.PrintLast Go.Proofs.YtddnhcnkjcdfgaaW.PrintMore
open Go.Proofs.Ytddnhcnkjcdfgaa.P
set_option linter.unusedVariables false
set_option linter.unusedSimpArgs false
/-- Sector i is left out in round j. -/
def skp (T i j : Nat) : Bool := decide (i % 5 = 4) || (decide (i % 3 = 2) && decide (j = T))
def gS (T j : Nat) (s : DS) : Nat → DS
  | 0 => s
  | i + 1 => if skp T i j then gS T j s i else (gS T j s i).put i (markL (i : Int) (j : Int))
def gH (T j : Nat) (h : List Int) : Nat → List Int
  | 0 => h
  | i + 1 => if skp T i j then gH T j h i else (gH T j h i).set i (j : Int)
def oS (n T : Nat) : Nat → DS
  | 0 => DS.fresh n (List.replicate n zeros)
  | j + 1 => gS T (j + 1) (oS n T j) n
def oH (n T : Nat) : Nat → List Int
  | 0 => List.replicate n 0
  | j + 1 => gH T (j + 1) (oH n T j) n
theorem gS_n (T j : Nat) (s : DS) : ∀ i, (gS T j s i).n = s.n
  | 0 => rfl
  | i + 1 => by unfold gS; split <;> first | exact gS_n T j s i | (show (gS T j s i).n = _; exact gS_n T j s i)
theorem gS_c (T j : Nat) (s : DS) : ∀ i, (gS T j s i).c ≤ s.c + i
  | 0 => Nat.le_refl _
  | i + 1 => by
    have ih := gS_c T j s i
    unfold gS
    split
    · omega
    · show (gS T j s i).c + 1 ≤ _
      omega
theorem gH_len (T j : Nat) (h : List Int) : ∀ i, (gH T j h i).length = h.length
  | 0 => rfl
  | i + 1 => by
    have ih := gH_len T j h i
    unfold gH
    split
    · exact ih
    · rw [List.length_set]; exact ih
theorem oS_n (n T : Nat) : ∀ j, (oS n T j).n = n
  | 0 => rfl
  | j + 1 => by unfold oS; rw [gS_n]; exact oS_n n T j
theorem oS_c (n T : Nat) : ∀ j, (oS n T j).c ≤ j * n
  | 0 => Nat.zero_le _
  | j + 1 => by
    have h1 := gS_c T (j + 1) (oS n T j) n
    have h2 := oS_c n T j
    unfold oS
    rw [Nat.succ_mul]
    omega
theorem oH_len (n T : Nat) : ∀ j, (oH n T j).length = n
  | 0 => List.length_replicate
  | j + 1 => by unfold oH; rw [gH_len]; exact oH_len n T j
/-- The fate behind q others. -/
def fateN (T a b q : Nat) : Nat := (a + b * q) % (T + 3)
/-- What is wanted of a sector, and the fates, up to sector i. -/
def wf (n T a b : Nat) (H : List Int) : Nat → List (List Int) × List Int
  | 0 => (List.replicate n [], [])
  | i + 1 =>
    let p := wf n T a b H i
    if H.getD i 0 = 0 then (p.1.set i zeros, p.2)
    else (p.1.set i (if 1 < fateN T a b p.2.length then markL (i : Int) (min ((fateN T a b p.2.length : Int) - 1) (H.getD i 0)) else zeros), p.2 ++ [(fateN T a b p.2.length : Int) - 1])
theorem wf_len (n T a b : Nat) (H : List Int) : ∀ i, (wf n T a b H i).2.length ≤ i
  | 0 => Nat.le_refl _
  | i + 1 => by
    have ih := wf_len n T a b H i
    unfold wf
    by_cases h : H.getD i 0 = 0
    · simp only [h, if_true]
      omega
    · simp only [h, if_false, List.length_append, List.length_singleton]
      omega
theorem wf_zero (n T a b : Nat) (H : List Int) (i : Nat) (h : H.getD i 0 = 0) : wf n T a b H (i + 1) = ((wf n T a b H i).1.set i zeros, (wf n T a b H i).2) := by
  conv => lhs; unfold wf
  simp only [h, if_true]
theorem wf_more (n T a b : Nat) (H : List Int) (i : Nat) (hv : Int) (q fq : Nat) (h : H.getD i 0 = hv) (h0 : ¬ hv = 0) (hq : (wf n T a b H i).2.length = q) (hf : fateN T a b q = fq) :
    wf n T a b H (i + 1) = ((wf n T a b H i).1.set i (if 1 < fq then markL (i : Int) (min ((fq : Int) - 1) hv) else zeros), (wf n T a b H i).2 ++ [(fq : Int) - 1]) := by
  conv => lhs; unfold wf
  simp only [h, hq, hf, h0, if_false]
theorem crash_none (s : DS) (fs : List Int) (h : s.W = fun _ => []) : (s.crash fs).L = s.L := by
  have h1 : s.keysN = [] := by
    rw [List.eq_nil_iff_forall_not_mem]
    intro i hi
    exact ((s.mem_keysN i).1 hi).2 (by rw [h])
  show crashL s fs (min s.keysN.length fs.length) = s.L
  rw [h1]
  simp only [List.length_nil, Nat.zero_min]
  rfl
theorem crashL_withR (s : DS) (r : Int) (fs : List Int) : ∀ j, crashL (s.withR r) fs j = crashL s fs j
  | 0 => rfl
  | j + 1 => by
    have ih := crashL_withR s r fs j
    unfold crashL
    rw [ih]
    rfl
theorem crash_withR (s : DS) (r : Int) (fs : List Int) : ((s.withR r).crash fs).L = (s.crash fs).L := crashL_withR s r fs _
end Go.Proofs.Ytddnhcnkjcdfgaa.M
