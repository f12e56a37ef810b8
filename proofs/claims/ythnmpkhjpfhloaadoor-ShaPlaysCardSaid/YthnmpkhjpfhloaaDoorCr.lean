import Derived.Test.YthnmpkhjpfhloaaDoorCl
namespace Go.Proofs.YthnmpkhjpfhloaaDoor.M
open Go.RowKit Go.Proofs.YthnmpkhjpfhloaaDoorW.PrintWords Go.Proofs.YthnmpkhjpfhloaaDoorW.PrintLast Go.Proofs.YthnmpkhjpfhloaaDoorW.PrintMore
set_option linter.unusedVariables false
set_option linter.unusedSimpArgs false
/-! A row of pieces: slices that lie in somebody's memory. -/
structure Piece where
  A : Option Addr
  c : Nat
  l : List Int
def Piece.enc (p : Piece) : Value := .slice p.A p.l.length p.c
def KP : Kd Piece := Kd.scalar Piece.enc (fun _ => rfl)
def Piece.ok (w : World) (p : Piece) : Prop := (Kd.int .u8).C w p.A p.l.length p.l ∧ p.l.length ≤ p.c
theorem Piece.ok_below {w w' : World} {p : Piece} (h : p.ok w) (hb : Below w.heap.size w w') : p.ok w' := ⟨Kd.C_below h.1 hb, h.2⟩
theorem C_pieces {w : World} {A : Option Addr} {n : Nat} {ps : List Piece} (h : KP.C w A n ps) (hp : ∀ p ∈ ps, p.ok w) : (Kd.slice 5 (Kd.int .u8)).C w A n (ps.map Piece.l) := by
  refine ⟨by rw [List.length_map]; exact h.1, h.2.1, fun hn => ?_⟩
  obtain ⟨ad, e, hc⟩ := h.2.2 hn
  refine ⟨ad, e, fun j q hq => ?_⟩
  rw [List.getElem?_map] at hq
  cases hj : ps[j]? with
  | none => rw [hj] at hq; cases hq
  | some p =>
    rw [hj] at hq
    have hq' : p.l = q := by simpa using hq
    subst hq'
    obtain ⟨c, hs, hr, hcell⟩ := hc j p hj
    have hr' : c = [p.enc] := hr
    have hk := hp p (List.mem_of_getElem? hj)
    exact ⟨c, hs, ⟨p.A, p.c, hr', hk.2, hk.1⟩, hcell⟩
set_option maxHeartbeats 8000000 in
set_option maxRecDepth 100000 in
theorem cut_small (A : Option Addr) (n c : Nat) (m : Int) (w : World) (h : (n : Int) ≤ m) (h0 : 0 ≤ m) : Calls Tryd.prog 20 #[.slice A n c, .int .i64 m] w fun e w' => e = .returned (.slice A n c) ∧ w' = w := by
  have h1 : decide (m < (n : Int)) = false := decide_eq_false (by omega)
  have h2 : ¬ (m < (n : Int)) := by omega
  go_enter Tryd.func20, Tryd.ntmps20
  go_wp2
  go_ret
  exact ⟨rfl, rfl⟩
set_option maxHeartbeats 8000000 in
set_option maxRecDepth 100000 in
theorem cut_big (A : Option Addr) (n c : Nat) (m : Nat) (w : World) (h : m < n) (hc : n ≤ c) : Calls Tryd.prog 20 #[.slice A n c, .int .i64 (m : Int)] w fun e w' => e = .returned (.slice A m c) ∧ w' = w := by
  have h1 : decide ((m : Int) < (n : Int)) = true := decide_eq_true (by omega)
  have h2 : (m : Int) < (n : Int) := by omega
  have hcut : ∀ W : World, (Instr.slice 22 (.slice A n c) none (some (.int .i64 (m : Int))) none).run Tryd.prog W = .ok (.slice A m c) W := by
    obtain ⟨i05, hi05, _, hsz05, _⟩ := info_parts P.info5
    exact cut_to (P := Tryd.prog) 22 5 .i64 Tryd.underlying22 hi05 A n c (m : Int) (by omega) (by omega) hc
  go_enter Tryd.func20, Tryd.ntmps20
  go_wp2
  go_ret
  exact ⟨rfl, rfl⟩
end Go.Proofs.YthnmpkhjpfhloaaDoor.M
