/- The call join(b) of package kilnlaw1: its variadic slice is a new block of one cell. -/
import Derived.Test.YthmnomdjpbfefaaDoorPx6
namespace Go.Proofs.YthmnomdjpbfefaaDoor.J
open Go.RowKit Go.Proofs.YthmnomdjpbfefaaDoorW.PrintWords Go.Proofs.YthmnomdjpbfefaaDoorW.PrintLast Go.Proofs.YthmnomdjpbfefaaDoorW.PrintMore Go.Proofs.YthmnomdjpbfefaaDoor.P

theorem lit_one {w : World} {A : Option Addr} {c : Nat} {l : List Int} (h : Kd.C (Kd.int .u8) w A l.length l) (hc : l.length ≤ c) :
    Kd.C (Kd.slice 5 (Kd.int .u8)) (w.alloc (.cells #[.slice A l.length c] 23)) (some ⟨w.heap.size, 0, none⟩) ([l] : List (List Int)).length [l] := by
  refine ⟨rfl, by simp, fun _ => ⟨_, rfl, fun j p hj => ?_⟩⟩
  cases j with
  | succ j => simp at hj
  | zero =>
    obtain rfl : l = p := by simpa using hj
    refine ⟨[.slice A l.length c], rfl, ⟨A, c, rfl, hc, Kd.C_below h (below_alloc (Below.refl _ _) _)⟩, fun i u hu => ?_⟩
    cases i with
    | succ i => simp at hu
    | zero =>
      obtain rfl : Value.slice A l.length c = u := by simpa using hu
      simp [Addr.add]
theorem join_one {w : World} {A : Option Addr} {c : Nat} {l : List Int} (h : Kd.C (Kd.int .u8) w A l.length l) (hc : l.length ≤ c) (hl : ([] : List Int).length + l.length < 140737488355328) :
    Calls Tryd.prog 18 #[.slice (some ⟨w.heap.size, 0, none⟩) 1 1] (w.alloc (.cells #[.slice A l.length c] 23)) fun e w' =>
      ∃ v, e = .returned v ∧ Kd.R (Kd.int .u8) 5 w' (w.heap.size + 1) (fun _ => True) v ([] ++ l) ∧ Below w.heap.size w w' := by
  have hj : kilnlaw1_join.f 2 [l] = some ([] ++ l) := by
    unfold kilnlaw1_join.f
    simp only [kilnlaw1_join.l0]
    rw [if_pos (by simp), if_pos (by decide), if_pos (by exact hl), if_neg (by simp [wrap64])]
    rfl
  refine (kilnlaw1_join.calls 2 (some ⟨w.heap.size, 0, none⟩) 1 [l] ([] ++ l) _ (lit_one h hc) (by simp) hj).mono ?_
  rintro e w' ⟨v, rfl, hR, hb⟩
  have hs : (w.alloc (.cells #[.slice A l.length c] 23)).heap.size = w.heap.size + 1 := by simp
  rw [hs] at hR
  exact ⟨v, rfl, hR, below_step (below_alloc (Below.refl _ _) _) hb⟩
theorem relen {α : Type} {d : Kd α} {e base n c : Nat} {ok : Nat → Prop} {w : World} {A : Option Addr} {xs : List α} (h : d.R e w base ok (.slice A n c) xs) : d.R e w base ok (.slice A xs.length c) xs := by
  have h1 := (Kd.R_reads' h).1
  rw [← h1]
  exact h
theorem fk_len {α : Type} {d : Kd α} {e n c : Nat} {ok : Nat → Prop} {w : World} {A : Option Addr} {l : List α} (h : n = l.length) (hf : Kd.FK (Kd.slice e d) w ok l [.slice A l.length c]) : Kd.FK (Kd.slice e d) w ok l [.slice A n c] := by
  rw [h]
  exact hf
end Go.Proofs.YthmnomdjpbfefaaDoor.J
