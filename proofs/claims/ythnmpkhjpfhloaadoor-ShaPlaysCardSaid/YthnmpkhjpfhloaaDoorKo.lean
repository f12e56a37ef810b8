import Derived.Test.YthnmpkhjpfhloaaDoorK
import Derived.Test.YthnmpkhjpfhloaaDoorNc
import Derived.ChangeArms
namespace Go.Proofs.YthnmpkhjpfhloaaDoor.Bulk
open Go.ChangeShapes Go.WideShapes Go.Proofs.YthnmpkhjpfhloaaDoorW.PrintWords Go.Proofs.YthnmpkhjpfhloaaDoor.M
set_option linter.unusedVariables false

section
variable {H : Type} (enc : TypeId × Value → H) (P : Program) (W : World) (base : Nat) (spare : Nat → Bool) (held : Bool)
/-- Whatever is read at type t is of kind d, and keeps Ok at its bulk. -/
def Opens {α : Type} (t : TypeId) (d : Kd α) (Ok : α → Nat → Prop) : Prop :=
  ∀ (fuel : Nat) (cs : List Value) (x : DataW H × List MemPlace), DataW.trod enc P W base spare held fuel t cs = some x → ∃ y, d.K W y cs ∧ Ok y (Rows.uptoBulk x.1)

variable {enc P W base spare held}
theorem opens_int {t : TypeId} {k : IntKind} (ht : P.underlying t = some (.int k)) : Opens enc P W base spare held t (Kd.int k) (fun y _ => (Lit.int k y).wf = true) := by
  intro fuel cs x h
  obtain ⟨n, rfl, rfl, hw⟩ := DataW.trod_int ht h
  exact ⟨n, rfl, hw⟩

theorem cells_of {a : Addr} {n : Nat} {cs : List Value} (h : W.cells? base a n = some cs) : cs.length = n ∧ ∀ i u, cs[i]? = some u → W.cell? (a.add i) = some u := by
  obtain ⟨_, hl, hc⟩ := World.cells?_some h
  refine ⟨hl, fun i u hu => ?_⟩
  have hi : i < cs.length := (List.getElem?_eq_some_iff.1 hu).1
  rw [hc i (by omega), hu]

theorem opens_slice {α : Type} {t e q : TypeId} {d : Kd α} {Ok : α → Nat → Prop} (ht : P.underlying t = some (.slice e)) (hc : P.cellsOf e = d.sz)
    (hm : ∀ y m n, m ≤ n → Ok y m → Ok y n) (he : Opens enc P W base spare held e d Ok) :
    Opens enc P W base spare held t (Kd.slice q d) (fun ys n => ys.length ≤ n ∧ ∀ y ∈ ys, Ok y n) := by
  intro fuel cs x h
  rcases DataW.trod_slice ht h with ⟨rfl, rfl⟩ | ⟨a, len, cap, elems, rest, n, _, rfl, rfl, hb, hl, hmax, hlen, hel, _, _⟩
  · refine ⟨[], ⟨none, 0, rfl, Nat.le_refl _, rfl, Nat.zero_le _, fun h => absurd h (Nat.lt_irrefl _)⟩, by simp, fun y hy => by cases hy⟩
  · have each : ∀ i (hi : i < elems.length), ∃ y, (∃ c, c.length = d.sz ∧ d.K W y c ∧ ∀ j u, c[j]? = some u → W.cell? (a.add (i * d.sz + j)) = some u) ∧ Ok y (Rows.uptoBulk (elems[i]).1) := by
      intro i hi
      have h1 := hel i (by omega)
      rw [List.getElem?_eq_getElem hi, Option.bind_eq_some_iff] at h1
      obtain ⟨c, h2, h3⟩ := h1
      obtain ⟨y, hk, hok⟩ := he _ _ _ h3
      obtain ⟨hcl, hcell⟩ := cells_of h2
      rw [hc] at hcl hcell
      refine ⟨y, ⟨c, hcl, hk, fun j u hu => ?_⟩, hok⟩
      have := hcell j u hu
      rwa [Addr.add_add] at this
    have all : ∀ m, m ≤ elems.length → ∃ ys : List α, ys.length = m ∧ ∀ i y, ys[i]? = some y → (∃ c, c.length = d.sz ∧ d.K W y c ∧ ∀ j u, c[j]? = some u → W.cell? (a.add (i * d.sz + j)) = some u) ∧ ∃ hi : i < elems.length, Ok y (Rows.uptoBulk (elems[i]).1) := by
      intro m
      induction m with
      | zero => intro _; exact ⟨[], rfl, fun i y hy => by simp at hy⟩
      | succ m ih =>
        intro hm1
        obtain ⟨ys, hys, hall⟩ := ih (by omega)
        obtain ⟨y, hy, hoky⟩ := each m (by omega)
        refine ⟨ys ++ [y], by simp [hys], fun i z hz => ?_⟩
        by_cases hi : i < m
        · rw [List.getElem?_append_left (by omega)] at hz
          exact hall i z hz
        · have hi2 : i < (ys ++ [y]).length := (List.getElem?_eq_some_iff.1 hz).1
          simp [hys] at hi2
          obtain rfl : i = m := by omega
          rw [List.getElem?_append_right (by omega), hys] at hz
          simp at hz
          subst hz
          exact ⟨hy, by omega, hoky⟩
    obtain ⟨ys, hys, hall⟩ := all elems.length (Nat.le_refl _)
    have hbulk : Rows.uptoBulkAll (elems.map (·.1)) ≤ Rows.uptoBulk (DataW.slice (elems.map (·.1)) (rest.map (·.1))) := by simp only [Rows.uptoBulk]; omega
    refine ⟨ys, ⟨some a, cap, by rw [hys, hlen], by omega, rfl, ?_, fun _ => ⟨a, rfl, fun j p hp => (hall j p hp).1⟩⟩, ?_, fun y hy => ?_⟩
    · rw [hys, hlen]
      have : (maxLen : Nat) ≤ 9223372036854775807 := by decide
      omega
    · have := length_le (elems.map (·.1))
      rw [List.length_map] at this
      rw [hys]
      exact Nat.le_trans this hbulk
    · obtain ⟨i, hi⟩ := List.getElem?_of_mem hy
      obtain ⟨_, hlt, hok⟩ := hall i y hi
      refine hm y _ _ ?_ hok
      exact Nat.le_trans (part_le (List.mem_map.2 ⟨elems[i], List.getElem_mem hlt, rfl⟩)) hbulk

/-- The top: a slice that is an argument, of any bulk. -/
theorem arg_full {α : Type} {t q : TypeId} {d : Kd α} {Ok : List α → Nat → Prop} {a : Option Addr} {len cap : Nat} {dd : DataW H} {ps : List MemPlace}
    (hs : Opens enc P W base spare held t (Kd.slice q d) Ok) (h : DataW.Trod enc P W base spare held t (.slice a len cap) dd ps) : ∃ l, len = l.length ∧ l.length ≤ cap ∧ Kd.C d W a l.length l ∧ l.length ≤ 9223372036854775807 ∧ ∃ n, Ok l n := by
  obtain ⟨fuel, hf⟩ := h
  obtain ⟨l, ⟨A, c, he, hl, hC⟩, hok⟩ := hs _ _ _ hf
  simp [Value.cells] at he
  obtain ⟨rfl, rfl, rfl⟩ := he
  exact ⟨l, rfl, hl, hC, hC.2.1, _, hok⟩
theorem trod_array {n fuel : Nat} {t e : TypeId} {cs : List Value} {x : DataW H × List MemPlace} (ht : P.underlying t = some (.array n e)) (h : DataW.trod enc P W base spare held fuel t cs = some x) :
    ∃ (xs : List (DataW H × List MemPlace)) (m : Nat), cs.length = P.cellsOf t ∧ xs.length = n ∧ x = (.agg (xs.map (·.1)), xs.flatMap (·.2)) ∧ ∀ i, i < n → DataW.trod enc P W base spare held m e ((cs.drop (i * P.cellsOf e)).take (P.cellsOf e)) = xs[i]? := by
  cases fuel with
  | zero => simp [DataW.trod] at h
  | succ m =>
    unfold DataW.trod at h
    rw [ht] at h
    split at h <;> simp_all
    obtain ⟨hl, xs, hp, hd⟩ := h
    exact ⟨xs, by simpa using mapM_some_length hp, hd.symm, m, fun i hi => mapM_some_get hp i i (by rw [List.getElem?_range hi])⟩
theorem opens_pair {t e : TypeId} (ht : P.underlying t = some (.array 2 e)) (he : P.underlying e = some (.int .i64)) (hce : P.cellsOf e = 1) (hct : P.cellsOf t = 2) :
    Opens enc P W base spare held t KT (fun x _ => (Lit.int .i64 x.1).wf = true ∧ (Lit.int .i64 x.2).wf = true) := by
  intro fuel cs x h
  obtain ⟨xs, m, hl, hx, rfl, hf⟩ := trod_array ht h
  rw [hct] at hl
  obtain ⟨c0, c1, rfl⟩ : ∃ c0 c1, cs = [c0, c1] := by
    match cs, hl with
    | [c0, c1], _ => exact ⟨c0, c1, rfl⟩
  obtain ⟨x0, x1, rfl⟩ : ∃ x0 x1, xs = [x0, x1] := by
    match xs, hx with
    | [x0, x1], _ => exact ⟨x0, x1, rfl⟩
  have f0 : DataW.trod enc P W base spare held m e (([c0, c1].drop (0 * P.cellsOf e)).take (P.cellsOf e)) = some x0 := hf 0 (by decide)
  have f1 : DataW.trod enc P W base spare held m e (([c0, c1].drop (1 * P.cellsOf e)).take (P.cellsOf e)) = some x1 := hf 1 (by decide)
  rw [hce] at f0 f1
  obtain ⟨y0, k0, o0⟩ := opens_int (enc := enc) (W := W) (base := base) (spare := spare) (held := held) he _ _ _ f0
  obtain ⟨y1, k1, o1⟩ := opens_int (enc := enc) (W := W) (base := base) (spare := spare) (held := held) he _ _ _ f1
  obtain rfl : c0 = .int .i64 y0 := by simpa using (show [c0] = [.int .i64 y0] from k0)
  obtain rfl : c1 = .int .i64 y1 := by simpa using (show [c1] = [.int .i64 y1] from k1)
  exact ⟨(y0, y1), rfl, o0, o1⟩
theorem arg_52 {a : Option Addr} {len cap : Nat} {dd : DataW H} {ps : List MemPlace}
    (h : DataW.Trod enc Tryd.prog W base spare held 52 (.slice a len cap) dd ps) : ∃ l, len = l.length ∧ l.length ≤ cap ∧ Kd.C KT W a l.length l ∧ l.length ≤ 9223372036854775807 ∧ ∀ x ∈ l, (Lit.int .i64 x.1).wf = true ∧ (Lit.int .i64 x.2).wf = true := by
  obtain ⟨l, h1, h2, h3, h4, n, h5⟩ := arg_full (q := 53) (opens_slice Tryd.underlying52 (by kernel_rfl) (fun _ _ _ _ h => h) (opens_pair (e := 3) Tryd.underlying53 Tryd.underlying3 (by kernel_rfl) (by kernel_rfl))) h
  exact ⟨l, h1, h2, h3, h4, h5.2⟩
end
end Go.Proofs.YthnmpkhjpfhloaaDoor.Bulk
