import Derived.Test.YtddnhcnkjcdfgaaK
import Derived.Test.YtddnhcnkjcdfgaaDn
import Derived.ChangeArms
namespace Go.Proofs.Ytddnhcnkjcdfgaa.Bulk
open Go.ChangeShapes Go.WideShapes Go.Proofs.YtddnhcnkjcdfgaaW.PrintWords Go.Proofs.Ytddnhcnkjcdfgaa.M
set_option linter.unusedVariables false

section
variable {H : Type} (enc : TypeId × Value → H) (P : Program) (W : World) (base : Nat) (spare : Nat → Bool) (held : Bool)
/-- Whatever is read at type t is of kind d, and keeps Ok at its bulk. -/
def Opens {α : Type} (t : TypeId) (d : Kd α) (Ok : α → Nat → Prop) : Prop :=
  ∀ (fuel : Nat) (cs : List Value) (x : DataW H × List MemPlace), DataW.trod enc P W base spare held fuel t cs = some x → ∃ y, d.K W y cs ∧ Ok y (Rows.uptoBulk x.1)

variable {enc P W base spare held}
theorem opens_int {t : TypeId} {k : IntKind} (ht : P.underlying t = some (.int k)) : Opens enc P W base spare held t (Kd.int k) (fun y _ => (Lit.int k y).wf = true) := by
  intro fuel cs x h
  obtain ⟨n, rfl, rfl, hw⟩ := DataW.trod_int ht h
  exact ⟨n, rfl, hw⟩

theorem cells_of {a : Addr} {n : Nat} {cs : List Value} (h : W.cells? base a n = some cs) : cs.length = n ∧ ∀ i u, cs[i]? = some u → W.cell? (a.add i) = some u := by
  obtain ⟨_, hl, hc⟩ := World.cells?_some h
  refine ⟨hl, fun i u hu => ?_⟩
  have hi : i < cs.length := (List.getElem?_eq_some_iff.1 hu).1
  rw [hc i (by omega), hu]

theorem opens_slice {α : Type} {t e q : TypeId} {d : Kd α} {Ok : α → Nat → Prop} (ht : P.underlying t = some (.slice e)) (hc : P.cellsOf e = d.sz)
    (hm : ∀ y m n, m ≤ n → Ok y m → Ok y n) (he : Opens enc P W base spare held e d Ok) :
    Opens enc P W base spare held t (Kd.slice q d) (fun ys n => ys.length ≤ n ∧ ∀ y ∈ ys, Ok y n) := by
  intro fuel cs x h
  rcases DataW.trod_slice ht h with ⟨rfl, rfl⟩ | ⟨a, len, cap, elems, rest, n, _, rfl, rfl, hb, hl, hmax, hlen, hel, _, _⟩
  · refine ⟨[], ⟨none, 0, rfl, Nat.le_refl _, rfl, Nat.zero_le _, fun h => absurd h (Nat.lt_irrefl _)⟩, by simp, fun y hy => by cases hy⟩
  · have each : ∀ i (hi : i < elems.length), ∃ y, (∃ c, c.length = d.sz ∧ d.K W y c ∧ ∀ j u, c[j]? = some u → W.cell? (a.add (i * d.sz + j)) = some u) ∧ Ok y (Rows.uptoBulk (elems[i]).1) := by
      intro i hi
      have h1 := hel i (by omega)
      rw [List.getElem?_eq_getElem hi, Option.bind_eq_some_iff] at h1
      obtain ⟨c, h2, h3⟩ := h1
      obtain ⟨y, hk, hok⟩ := he _ _ _ h3
      obtain ⟨hcl, hcell⟩ := cells_of h2
      rw [hc] at hcl hcell
      refine ⟨y, ⟨c, hcl, hk, fun j u hu => ?_⟩, hok⟩
      have := hcell j u hu
      rwa [Addr.add_add] at this
    have all : ∀ m, m ≤ elems.length → ∃ ys : List α, ys.length = m ∧ ∀ i y, ys[i]? = some y → (∃ c, c.length = d.sz ∧ d.K W y c ∧ ∀ j u, c[j]? = some u → W.cell? (a.add (i * d.sz + j)) = some u) ∧ ∃ hi : i < elems.length, Ok y (Rows.uptoBulk (elems[i]).1) := by
      intro m
      induction m with
      | zero => intro _; exact ⟨[], rfl, fun i y hy => by simp at hy⟩
      | succ m ih =>
        intro hm1
        obtain ⟨ys, hys, hall⟩ := ih (by omega)
        obtain ⟨y, hy, hoky⟩ := each m (by omega)
        refine ⟨ys ++ [y], by simp [hys], fun i z hz => ?_⟩
        by_cases hi : i < m
        · rw [List.getElem?_append_left (by omega)] at hz
          exact hall i z hz
        · have hi2 : i < (ys ++ [y]).length := (List.getElem?_eq_some_iff.1 hz).1
          simp [hys] at hi2
          obtain rfl : i = m := by omega
          rw [List.getElem?_append_right (by omega), hys] at hz
          simp at hz
          subst hz
          exact ⟨hy, by omega, hoky⟩
    obtain ⟨ys, hys, hall⟩ := all elems.length (Nat.le_refl _)
    have hbulk : Rows.uptoBulkAll (elems.map (·.1)) ≤ Rows.uptoBulk (DataW.slice (elems.map (·.1)) (rest.map (·.1))) := by simp only [Rows.uptoBulk]; omega
    refine ⟨ys, ⟨some a, cap, by rw [hys, hlen], by omega, rfl, ?_, fun _ => ⟨a, rfl, fun j p hp => (hall j p hp).1⟩⟩, ?_, fun y hy => ?_⟩
    · rw [hys, hlen]
      have : (maxLen : Nat) ≤ 9223372036854775807 := by decide
      omega
    · have := length_le (elems.map (·.1))
      rw [List.length_map] at this
      rw [hys]
      exact Nat.le_trans this hbulk
    · obtain ⟨i, hi⟩ := List.getElem?_of_mem hy
      obtain ⟨_, hlt, hok⟩ := hall i y hi
      refine hm y _ _ ?_ hok
      exact Nat.le_trans (part_le (List.mem_map.2 ⟨elems[i], List.getElem_mem hlt, rfl⟩)) hbulk

/-- The top: a slice that is an argument, of any bulk. -/
theorem arg_full {α : Type} {t q : TypeId} {d : Kd α} {Ok : List α → Nat → Prop} {a : Option Addr} {len cap : Nat} {dd : DataW H} {ps : List MemPlace}
    (hs : Opens enc P W base spare held t (Kd.slice q d) Ok) (h : DataW.Trod enc P W base spare held t (.slice a len cap) dd ps) : ∃ l, len = l.length ∧ l.length ≤ cap ∧ Kd.C d W a l.length l ∧ l.length ≤ 9223372036854775807 ∧ ∃ n, Ok l n := by
  obtain ⟨fuel, hf⟩ := h
  obtain ⟨l, ⟨A, c, he, hl, hC⟩, hok⟩ := hs _ _ _ hf
  simp [Value.cells] at he
  obtain ⟨rfl, rfl, rfl⟩ := he
  exact ⟨l, rfl, hl, hC, hC.2.1, _, hok⟩
end
section
variable {H : Type} {enc : TypeId × Value → H} {W : World} {base : Nat} {spare : Nat → Bool} {held : Bool}
theorem two_of_len {α : Type} {l : List α} (h : l.length = 2) : ∃ a b, l = [a, b] := by
  rcases l with _ | ⟨a, _ | ⟨b, _ | ⟨c, t⟩⟩⟩
  · simp at h
  · simp at h
  · exact ⟨a, b, rfl⟩
  · simp at h
theorem opens_28 : Opens enc Try.prog W base spare held 28 (Kd.slice 5 (Kd.int .u8)) (fun ys n => ys.length ≤ n ∧ ∀ y ∈ ys, (Lit.int .u8 y).wf = true) :=
  opens_slice Try.underlying28 (by kernel_rfl) (fun _ _ _ _ h => h) (opens_int Try.underlying5)
theorem opens_30 : Opens enc Try.prog W base spare held 30 Go.Proofs.Ytddnhcnkjcdfgaa.P.k30 (fun _ _ => True) := by
  intro fuel cs x h
  obtain ⟨xs, n, _, rfl, hl, hx, hf⟩ := DataW.trod_struct Try.underlying30 h
  rw [show Try.prog.cellsOf 30 = 2 by kernel_rfl] at hl
  obtain ⟨c0, c1, rfl⟩ : ∃ c0 c1, cs = [c0, c1] := two_of_len hl
  have hx2 : xs.length = 2 := hx
  obtain ⟨x0, x1, rfl⟩ : ∃ x0 x1, xs = [x0, x1] := two_of_len hx2
  have q3 : Try.prog.cellsOf 3 = 1 := by kernel_rfl
  have q28 : Try.prog.cellsOf 28 = 1 := by kernel_rfl
  have f0 : DataW.trod enc Try.prog W base spare held n 3 (([c0, c1].drop 0).take (Try.prog.cellsOf 3)) = some x0 := hf 0 _ rfl
  have f1 : DataW.trod enc Try.prog W base spare held n 28 (([c0, c1].drop 1).take (Try.prog.cellsOf 28)) = some x1 := hf 1 _ rfl
  rw [q3] at f0
  rw [q28] at f1
  obtain ⟨y0, k0, _⟩ := opens_int Try.underlying3 _ _ _ f0
  obtain ⟨y1, k1, _⟩ := opens_28 _ _ _ f1
  exact ⟨⟨y0, y1⟩, ⟨[c0], [c1], rfl, k0, k1⟩, trivial⟩
/-- Writes that came in. -/
theorem arg_22 {a : Option Addr} {len cap : Nat} {dd : DataW H} {ps : List MemPlace}
    (h : DataW.Trod enc Try.prog W base spare held 22 (.slice a len cap) dd ps) : ∃ l, len = l.length ∧ l.length ≤ cap ∧ Kd.C Go.Proofs.Ytddnhcnkjcdfgaa.P.k30 W a l.length l ∧ l.length ≤ 9223372036854775807 ∧ True := by
  obtain ⟨l, h1, h2, h3, h4, _⟩ := arg_full (q := 30) (opens_slice Try.underlying22 (by kernel_rfl) (fun _ _ _ _ h => h) opens_30) h
  exact ⟨l, h1, h2, h3, h4, trivial⟩
end
end Go.Proofs.Ytddnhcnkjcdfgaa.Bulk
namespace Go.Proofs.Ytddnhcnkjcdfgaa.M
open Go.RowKit Go.Proofs.YtddnhcnkjcdfgaaW.PrintWords Go.Proofs.YtddnhcnkjcdfgaaW.PrintLast Go.Proofs.YtddnhcnkjcdfgaaW.PrintMore
open Go.Proofs.Ytddnhcnkjcdfgaa.P
set_option linter.unusedVariables false
def tellsF (_k : Nat) (_a : Int) (_l : List S30) (_b : Int) : Option Bool := some true
theorem diskTells_row (k : Nat) (a0 : Int) (A1 : Option Addr) (c1 : Nat) (l1 : List S30) (a2 : Int) (r : Bool) (w : World) (h1 : Kd.C k30 w A1 l1.length l1) (hc1 : l1.length ≤ c1) (h : tellsF k a0 l1 a2 = some r) : Calls Try.prog 3 #[.int .i64 a0, .slice A1 l1.length c1, .int .i64 a2] w fun e w' => e = .returned (.bool r) ∧ Below w.heap.size w w' := by
  cases h
  exact diskTells_all a0 A1 c1 l1 a2 w h1 hc1
theorem diskTells_pure : ∀ (a0 : Int) (l1 : List S30) (a2 : Int), (Lit.int .i64 a0).wf = true → l1.length ≤ 9223372036854775807 → True → (Lit.int .i64 a2).wf = true → ∃ k, tellsF k a0 l1 a2 = some true := fun _ _ _ _ _ _ _ => ⟨0, rfl⟩
end Go.Proofs.Ytddnhcnkjcdfgaa.M
