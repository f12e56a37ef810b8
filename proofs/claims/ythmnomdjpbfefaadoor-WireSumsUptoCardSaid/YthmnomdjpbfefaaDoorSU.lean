-- written by programs of this session
import Derived.Test.YthmnomdjpbfefaaDoorSK
import Derived.ChangeArms
import Derived.ChangeSlices
import Derived.ChangeOld
namespace Go.Proofs.YthmnomdjpbfefaaDoor.Bulk
open Go.ChangeShapes Go.WideShapes Go.Proofs.YthmnomdjpbfefaaDoorW.PrintWords
set_option linter.unusedVariables false
section
variable {H : Type} (enc : TypeId × Value → H) (P : Program) (W : World) (base : Nat) (spare : Nat → Bool) (held : Bool)
def Opens {α : Type} (t : TypeId) (d : Kd α) (Ok : α → Nat → Prop) : Prop :=
  ∀ (fuel : Nat) (cs : List Value) (x : DataW H × List MemPlace), DataW.trod enc P W base spare held fuel t cs = some x → ∃ y, d.K W y cs ∧ Ok y (Rows.uptoBulk x.1)
variable {enc P W base spare held}
theorem opens_int {t : TypeId} {k : IntKind} (ht : P.underlying t = some (.int k)) : Opens enc P W base spare held t (Kd.int k) (fun y _ => (Lit.int k y).wf = true) := by
  intro fuel cs x h
  obtain ⟨n, rfl, rfl, hw⟩ := DataW.trod_int ht h
  exact ⟨n, rfl, hw⟩
theorem cells_of {a : Addr} {n : Nat} {cs : List Value} (h : W.cells? base a n = some cs) : cs.length = n ∧ ∀ i u, cs[i]? = some u → W.cell? (a.add i) = some u := by
  obtain ⟨_, hl, hc⟩ := World.cells?_some h
  refine ⟨hl, fun i u hu => ?_⟩
  have hi : i < cs.length := (List.getElem?_eq_some_iff.1 hu).1
  rw [hc i (by omega), hu]
theorem opens_slice {α : Type} {t e q : TypeId} {d : Kd α} {Ok : α → Nat → Prop} (ht : P.underlying t = some (.slice e)) (hc : P.cellsOf e = d.sz)
    (hm : ∀ y m n, m ≤ n → Ok y m → Ok y n) (he : Opens enc P W base spare held e d Ok) :
    Opens enc P W base spare held t (Kd.slice q d) (fun ys n => ys.length ≤ n ∧ ∀ y ∈ ys, Ok y n) := by
  intro fuel cs x h
  rcases DataW.trod_slice ht h with ⟨rfl, rfl⟩ | ⟨a, len, cap, elems, rest, n, _, rfl, rfl, hb, hl, hmax, hlen, hel, _, _⟩
  · refine ⟨[], ⟨none, 0, rfl, Nat.le_refl _, rfl, Nat.zero_le _, fun h => absurd h (Nat.lt_irrefl _)⟩, by simp, fun y hy => by cases hy⟩
  · have each : ∀ i (hi : i < elems.length), ∃ y, (∃ c, c.length = d.sz ∧ d.K W y c ∧ ∀ j u, c[j]? = some u → W.cell? (a.add (i * d.sz + j)) = some u) ∧ Ok y (Rows.uptoBulk (elems[i]).1) := by
      intro i hi
      have h1 := hel i (by omega)
      rw [List.getElem?_eq_getElem hi, Option.bind_eq_some_iff] at h1
      obtain ⟨c, h2, h3⟩ := h1
      obtain ⟨y, hk, hok⟩ := he _ _ _ h3
      obtain ⟨hcl, hcell⟩ := cells_of h2
      rw [hc] at hcl hcell
      refine ⟨y, ⟨c, hcl, hk, fun j u hu => ?_⟩, hok⟩
      have := hcell j u hu
      rwa [Addr.add_add] at this
    have all : ∀ m, m ≤ elems.length → ∃ ys : List α, ys.length = m ∧ ∀ i y, ys[i]? = some y → (∃ c, c.length = d.sz ∧ d.K W y c ∧ ∀ j u, c[j]? = some u → W.cell? (a.add (i * d.sz + j)) = some u) ∧ ∃ hi : i < elems.length, Ok y (Rows.uptoBulk (elems[i]).1) := by
      intro m
      induction m with
      | zero => intro _; exact ⟨[], rfl, fun i y hy => by simp at hy⟩
      | succ m ih =>
        intro hm1
        obtain ⟨ys, hys, hall⟩ := ih (by omega)
        obtain ⟨y, hy, hoky⟩ := each m (by omega)
        refine ⟨ys ++ [y], by simp [hys], fun i z hz => ?_⟩
        by_cases hi : i < m
        · rw [List.getElem?_append_left (by omega)] at hz
          exact hall i z hz
        · have hi2 : i < (ys ++ [y]).length := (List.getElem?_eq_some_iff.1 hz).1
          simp [hys] at hi2
          obtain rfl : i = m := by omega
          rw [List.getElem?_append_right (by omega), hys] at hz
          simp at hz
          subst hz
          exact ⟨hy, by omega, hoky⟩
    obtain ⟨ys, hys, hall⟩ := all elems.length (Nat.le_refl _)
    have hbulk : Rows.uptoBulkAll (elems.map (·.1)) ≤ Rows.uptoBulk (DataW.slice (elems.map (·.1)) (rest.map (·.1))) := by simp only [Rows.uptoBulk]; omega
    refine ⟨ys, ⟨some a, cap, by rw [hys, hlen], by omega, rfl, ?_, fun _ => ⟨a, rfl, fun j p hp => (hall j p hp).1⟩⟩, ?_, fun y hy => ?_⟩
    · rw [hys, hlen]
      have : (maxLen : Nat) ≤ 9223372036854775807 := by decide
      omega
    · have := length_le (elems.map (·.1))
      rw [List.length_map] at this
      rw [hys]
      exact Nat.le_trans this hbulk
    · obtain ⟨i, hi⟩ := List.getElem?_of_mem hy
      obtain ⟨_, hlt, hok⟩ := hall i y hi
      refine hm y _ _ ?_ hok
      exact Nat.le_trans (part_le (List.mem_map.2 ⟨elems[i], List.getElem_mem hlt, rfl⟩)) hbulk
theorem arg_slice {α : Type} {t q : TypeId} {d : Kd α} {Ok : List α → Nat → Prop} {a : Option Addr} {len cap : Nat} {dd : DataW H} {ps : List MemPlace} {ds : List (DataW H)}
    (hs : Opens enc P W base spare held t (Kd.slice q d) Ok) (hm : ∀ y m n, m ≤ n → Ok y m → Ok y n) (hk : Rows.uptoSmall H ds = true) (hd : dd ∈ ds)
    (h : DataW.Trod enc P W base spare held t (.slice a len cap) dd ps) : ∃ l, len = l.length ∧ l.length ≤ cap ∧ Kd.C d W a l.length l ∧ Ok l 1048576 := by
  obtain ⟨fuel, hf⟩ := h
  obtain ⟨l, ⟨A, c, he, hl, hC⟩, hok⟩ := hs _ _ _ hf
  simp [Value.cells] at he
  obtain ⟨rfl, rfl, rfl⟩ := he
  exact ⟨l, rfl, hl, hC, hm l _ _ (Nat.le_trans (part_le hd) (bound hk)) hok⟩
end
end Go.Proofs.YthmnomdjpbfefaaDoor.Bulk
