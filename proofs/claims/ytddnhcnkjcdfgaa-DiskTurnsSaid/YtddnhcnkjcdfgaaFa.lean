-- made, and writes out of a row, with things side by side
import Derived.Test.YtddnhcnkjcdfgaaTc
import Derived.Test.YtddnhcnkjcdfgaaDz
namespace Go.Proofs.Ytddnhcnkjcdfgaa.M
open Go.RowKit Go.Maps Go.Proofs.YtddnhcnkjcdfgaaW.PrintWords Go.Proofs.YtddnhcnkjcdfgaaW.PrintLast Go.Proofs.YtddnhcnkjcdfgaaW.PrintMore
open Go.Proofs.Ytddnhcnkjcdfgaa.P
set_option linter.unusedVariables false
set_option linter.unusedSimpArgs false
section
variable {w0 w : World} {L : List Th}
theorem Sep.push_alloc (h : Sep w0 w L) (cs : Array Value) (e : Nat) : Sep w0 (w.alloc (.cells cs e)) (cellsT w.heap.size cs e :: L) :=
  h.push (t := cellsT w.heap.size cs e) (below_alloc (Below.refl _ _) _) (F := fun b => b = w.heap.size) ⟨blk_new w _, fun b => Iff.rfl⟩ (fun b hb => Nat.le_of_eq hb.symm)
theorem Sep.own_slice {α : Type} {d : Kd α} {e : Nat} {v : Value} {xs : List α} (h : Sep w0 w (ownT d e v xs :: L)) : ∃ A c, v = .slice A xs.length c := by
  obtain ⟨_, _, hr⟩ := h.own
  exact Kd.R_slice hr
theorem Sep.own_C {α : Type} {d : Kd α} {e : Nat} {A : Option Addr} {n c : Nat} {xs : List α} (h : Sep w0 w (ownT d e (.slice A n c) xs :: L)) : d.C w A xs.length xs ∧ xs.length ≤ c := by
  obtain ⟨_, _, hr⟩ := h.own
  obtain ⟨h1, h2, h3⟩ := Kd.R_reads' hr
  exact ⟨h3, h1 ▸ h2⟩
theorem Sep.sw12 {a b c : Th} (h : Sep w0 w (a :: b :: c :: L)) : Sep w0 w (a :: c :: b :: L) := h.perm (List.Perm.cons a (List.Perm.swap c b L))
theorem Sep.made (h : Sep w0 w L) (k : Nat) (a0 : Int) (A1 : Option Addr) (c1 : Nat) (l1 : List S30) (n : Nat) (out : List S30) (h2 : 2 ≤ n) (hm : n ≤ 64) (hC : Kd.C k30 w A1 l1.length l1) (hc : l1.length ≤ c1) (hf : kilnlaw3_made.f k a0 l1 = some (0, (n : Int), out)) :
    Calls Try.prog 15 #[.int .i64 a0, .slice A1 l1.length c1] w fun e w' => ∃ A c g, e = .returned (.tuple #[.pointer (some ⟨g, 0, none⟩), .int .i64 (n : Int), .slice A out.length c]) ∧ Sep w0 w' (dkT g (DS.fresh n (List.replicate n zeros)) :: rowsT k30 30 (.slice A out.length c) out :: L) := by
  refine (kilnlaw3_made.calls k a0 A1 c1 l1 0 (n : Int) out n h2 hm rfl w hC hc hf).mono ?_
  rintro e w' ⟨v, g, F, base, rfl, hb, hd, hs, hB⟩
  obtain ⟨A, c, rfl⟩ := Kd.S_slice hs
  refine ⟨A, c, g, rfl, ?_⟩
  obtain ⟨U, _, _, h3⟩ := Sep.split (M := []) h
  exact h3 [dkT g _, rowsT k30 30 _ _] w' ⟨F, ⟨base, hd⟩, fun b hF => .inr (Nat.le_trans hb (hd.foot b hF).1), fun k => ¬ F k ∧ w.heap.size ≤ k ∧ k < w'.heap.size, ⟨⟨w.heap.size, Kd.S_mono (Kd.S_bound hs) (fun k hk => ⟨hk.1, hk.2.1, hk.2.2.1⟩)⟩, fun b hb => hb.2.2⟩, fun b hb => ⟨.inr hb.2.1, hb.1⟩, trivial⟩ ((Chg.of_below (F := fun _ => False) hB).mono (fun _ h => h.elim))
theorem Sep.write_row {g : Nat} {s : DS} {A : Option Addr} {c : Nat} {out : List S30} (h : Sep w0 w (dkT g s :: rowsT k30 30 (.slice A out.length c) out :: L)) (j : Nat) (hj : j < out.length) (h5 : (rd_T30 out (j : Int)).f1.length = 512) (i : Nat) (hi : i < s.n) (hf0 : (rd_T30 out (j : Int)).f0 = (i : Int)) (hc : s.c < 1073741824) :
    ∃ go b1 c1, A = some ⟨go, 0, none⟩ ∧ w.cell? ⟨go, j * 2, none⟩ = some (.int .i64 (i : Int)) ∧ w.cell? ⟨go, j * 2 + 1, none⟩ = some (.slice (some ⟨b1, 0, none⟩) 512 c1) ∧
    ∀ W, Below w.heap.size w W → Calls Try.prog 16 #[.pointer (some ⟨g, 0, none⟩), .int .i64 (i : Int), .slice (some ⟨b1, 0, none⟩) 512 c1] W fun e w' => e = .returned (.int .i64 0) ∧ Sep w0 w' (dkT g (s.put i (rd_T30 out (j : Int)).f1) :: rowsT k30 30 (.slice A out.length c) out :: L) := by
  obtain ⟨base, ok, hr⟩ := (h.up1).rows
  obtain ⟨go, b1, c1, rfl, hx0, hx1, hC, hok, hog, hgo⟩ := row_at hr j hj h5
  rw [hf0] at hx0
  refine ⟨go, b1, c1, rfl, hx0, hx1, fun W hW => ?_⟩
  obtain ⟨U, ⟨F, ⟨bd, hd⟩, hFU, F2, ⟨⟨b2, hs2⟩, hlt2⟩, hF2, _⟩, hU, hback⟩ := Sep.split (M := [dkT g s, rowsT k30 30 (.slice (some ⟨go, 0, none⟩) out.length c) out]) (h.step hW)
  obtain ⟨go', b1', c1', eg, hy0, hy1, hC2, hok2, hog2, hgo2⟩ := row_at hs2 j hj h5
  cases eg
  have hx1' := (hW.cell (World.block_lt_of_cell? w _ hx1)).trans hx1
  rw [hx1'] at hy1
  injection hy1 with hy1
  injection hy1 with hy1 _ hy2
  injection hy1 with hy1
  injection hy1 with hy1
  subst hy1
  subst hy2
  refine (write_at g i (some ⟨b1, 0, none⟩) c1 (rd_T30 out (j : Int)).f1 W bd F s hd hi hC2 (fun ad e hF => by cases e; exact (hF2 _ hok2).2 hF) hc).mono ?_
  rintro e w' ⟨he, F', hd', hF', hch⟩
  refine ⟨he, hback [dkT g _, rowsT k30 30 (.slice (some ⟨go, 0, none⟩) out.length c) out] w' ⟨F', ⟨bd, hd'⟩, fun b hb => (hF' b hb).imp (hFU b) id, F2, Th.step (rowsT k30 30 (.slice (some ⟨go, 0, none⟩) out.length c) out) ⟨⟨b2, hs2⟩, hlt2⟩ (fun b hb => hch.block b (hlt2 b hb) (fun hF => (hF2 b hb).2 hF)), fun b hb => ⟨.inl (hF2 b hb).1, fun hF => ?_⟩, trivial⟩ (hch.mono hFU)⟩
  rcases hF' b hF with h_ | h_
  · exact (hF2 b hb).2 h_
  · exact Nat.not_lt.2 h_ (hlt2 b hb)
end
end Go.Proofs.Ytddnhcnkjcdfgaa.M
