-- written by programs of this session
import Derived.Test.YthmnomdjpbfefaaDoorProg
import Derived.Below
import Derived.Deep.Draws
import Derived.Deep.AppendLies
import Derived.Maps.AppendAt
import Derived.OwnWalk
import Derived.Laws.BytesArg
import Derived.Laws.MakeOwn
import Derived.Laws.OwnMore
import Derived.Deep.OwnRows
import Derived.Tactics
import Derived.Lib.ConvBytes
import Derived.Laws.Slices
import Derived.WalkKit
import Derived.KernelRfl
import Derived.RowKit3
import Derived.Deep.LoopGhost
import Derived.Deep.QuietTactic
import Derived.BigQuiet
import Derived.WideLaws
import Derived.Deep.DeepCutAuto
import Derived.Deep.CutBlock
import Derived.Deep.RegionHeld3
import Derived.Laws.Rows
import Derived.Lib.AppendStr
import Derived.ArgAppend
import Derived.Laws.IdiomCopy
import Derived.OrdersHeld
import Derived.Laws.BitsLemmas
import Derived.RowKit
import Derived.Test.YthmnomdjpbfefaaDoorSWWords
import Derived.Test.YthmnomdjpbfefaaDoorSWLast
import Derived.Test.YthmnomdjpbfefaaDoorSWTab
import Derived.Test.YthmnomdjpbfefaaDoorSWFour
import Derived.Test.YthmnomdjpbfefaaDoorSWQPut
import Derived.Test.YthmnomdjpbfefaaDoorSWApart
import Derived.Test.YthmnomdjpbfefaaDoorSWArr
import Derived.Test.YthmnomdjpbfefaaDoorSWZeros
import Derived.Test.YthmnomdjpbfefaaDoorSWFoot
import Derived.Test.YthmnomdjpbfefaaDoorSWKept
import Derived.Test.YthmnomdjpbfefaaDoorSWShare
import Derived.Test.YthmnomdjpbfefaaDoorSWN
import Derived.Test.YthmnomdjpbfefaaDoorSWFootNe
import Derived.Test.YthmnomdjpbfefaaDoorSWAt
import Derived.Test.YthmnomdjpbfefaaDoorSWEqStruct
import Derived.Test.YthmnomdjpbfefaaDoorSWRepsOne
import Derived.Test.YthmnomdjpbfefaaDoorSWInv
import Derived.Test.YthmnomdjpbfefaaDoorSWInvWords
import Derived.Test.YthmnomdjpbfefaaDoorSWGuard
import Derived.Test.YthmnomdjpbfefaaDoorSWNEv
import Derived.Test.YthmnomdjpbfefaaDoorSWMore
import Derived.Laws.BitsAllLaws
namespace Go.Proofs.YthmnomdjpbfefaaDoor.M
open Go.RowKit Go.Proofs.YthmnomdjpbfefaaDoorW.PrintWords Go.Proofs.YthmnomdjpbfefaaDoorW.PrintLast Go.Proofs.YthmnomdjpbfefaaDoorW.PrintMore
set_option linter.unusedVariables false
set_option linter.unusedSimpArgs false
def halfL : List Nat := [0, 498536548, 997073096, 651767980, 1994146192, 1802195444, 1303535960, 1342533948, 3988292384, 4027552580, 3604390888, 3412177804, 2607071920, 2262029012, 2685067896, 3183342108]
def hstep (r : Nat) : Nat := (r / 16) ^^^ (halfL.getD (r % 16) 0)
def bstep (r : Nat) (c : Int) : Nat := hstep (hstep (r ^^^ (c % 4294967296).toNat))
def sumB (r : Nat) (b : List Int) : Nat := b.foldl bstep r
def sumP (r : Nat) (p : List (List Int)) : Nat := p.foldl sumB r
def fits (l : List (List Int)) : Bool := decide (l.length ≤ 9223372036854775807) && l.all fun b => decide (b.length ≤ 9223372036854775807)
def wire_Sum.f (l : List (List Int)) : Option Int := if fits l = true then some ((sumP 4294967295 l ^^^ 4294967295 : Nat) : Int) else none
theorem fits_row {l : List (List Int)} (h : fits l = true) {i : Nat} (hi : i < l.length) : (l.getD i []).length ≤ 9223372036854775807 := by
  unfold fits at h
  rw [Bool.and_eq_true, List.all_eq_true] at h
  rw [List.getD_eq_getElem?_getD, List.getElem?_eq_getElem hi]
  exact of_decide_eq_true (h.2 _ (List.getElem_mem hi))
theorem fits_len {l : List (List Int)} (h : fits l = true) : l.length ≤ 9223372036854775807 := by
  unfold fits at h
  rw [Bool.and_eq_true] at h
  exact of_decide_eq_true h.1
theorem halfL_lt (i : Nat) : halfL.getD i 0 < 4294967296 := by
  by_cases h : i < 16
  · have : ∀ j : Fin 16, halfL.getD j.1 0 < 4294967296 := by decide
    exact this ⟨i, h⟩
  · rw [List.getD_eq_getElem?_getD, List.getElem?_eq_none (by simp [halfL]; omega)]; decide
theorem xor_lt32 {a b : Nat} (ha : a < 4294967296) (hb : b < 4294967296) : a ^^^ b < 4294967296 := Nat.xor_lt_two_pow (n := 32) ha hb
theorem hstep_lt {r : Nat} (h : r < 4294967296) : hstep r < 4294967296 := xor_lt32 (by omega) (halfL_lt _)
theorem bstep_lt {r : Nat} (h : r < 4294967296) (c : Int) : bstep r c < 4294967296 := hstep_lt (hstep_lt (xor_lt32 h (by omega)))
theorem sumB_lt : ∀ (b : List Int) {r : Nat}, r < 4294967296 → sumB r b < 4294967296
  | [], _, h => h
  | c :: b, _, h => sumB_lt b (bstep_lt h c)
def Half (w : World) : Prop := ∀ i : Nat, i < 16 → w.cell? ⟨0, i, none⟩ = some (.int .u32 ((halfL.getD i 0 : Nat) : Int))
theorem Half.below {w w' : World} (h : Half w) (hb : Below w.heap.size w w') : Half w' := fun i hi =>
  (hb.cell (World.block_lt_of_cell? w _ (h i hi))).trans (h i hi)
theorem Half.drawn {w w' : World} (h : Half w) (hd : Drawn0 w w') : Half w' := by
  obtain ⟨n, rfl⟩ := hd
  exact h
theorem at_L1 {w : World} {A : Option Addr} {n : Nat} {xs : List (List Int)} (h : Kd.C (Kd.slice 5 (Kd.int .u8)) w A n xs) (i : Int) (h0 : 0 ≤ i) (h1 : i < n) : ∃ ad A0 c0, A = some ad ∧ w.cell? (ad.add i.toNat) = some (.slice A0 (xs.getD i.toNat []).length c0) ∧ (xs.getD i.toNat []).length ≤ c0 ∧ (Kd.int .u8).C w A0 (xs.getD i.toNat []).length (xs.getD i.toNat []) := by
  obtain ⟨ad, c, e, _, hK, hc0⟩ := Kd.C_get h ([] : List Int) i h0 h1
  have hc : ∀ j u, c[j]? = some u → w.cell? (ad.add (i.toNat * 1 + j)) = some u := hc0
  obtain ⟨A0, c0, rfl, l0, g0⟩ := hK
  exact ⟨ad, A0, c0, e, by have hq := hc 0 _ rfl; rwa [Nat.mul_one, Nat.add_zero] at hq, l0, g0⟩
theorem and15 (a : Nat) (h : a < 4294967296) : bits .and .u32 (a : Int) 15 = ((a % 16 : Nat) : Int) := by
  rw [show (15 : Int) = ((15 : Nat) : Int) from rfl, u32_and_nat a 15 h (by decide)]
  exact congrArg _ (Nat.and_two_pow_sub_one_eq_mod a 4)
theorem drop_cons {α : Type} (l : List α) (i : Nat) (d : α) (h : i < l.length) : l.drop i = l.getD i d :: l.drop (i + 1) := by
  rw [List.drop_eq_getElem_cons h, List.getD_eq_getElem?_getD, List.getElem?_eq_getElem h]; rfl
set_option maxHeartbeats 8000000 in
set_option maxRecDepth 100000 in
theorem wire_Sum.calls (A0 : Option Addr) (c0 : Nat) (l0 : List (List Int)) (r : Int) (w : World) (hr0 : Kd.C (Kd.slice 5 (Kd.int .u8)) w A0 l0.length l0) (hc0 : l0.length ≤ c0) (hG : Half w) (h : wire_Sum.f l0 = some r) :
    Calls Tryd.prog 16 #[.slice A0 l0.length c0] w fun e w' => e = .returned (.int .u32 r) ∧ Drawn0 w w' := by
  have hfit : fits l0 = true := by
    by_cases hf : fits l0 = true
    · exact hf
    · rw [wire_Sum.f, if_neg hf] at h; cases h
  rw [wire_Sum.f, if_pos hfit] at h
  obtain rfl := Option.some.inj h
  clear h
  have HF := Aside0.mk hfit
  clear hfit
  have HR0 := Aside0.mk hr0
  have HC0 := Aside0.mk hc0
  have HG := Aside0.mk hG
  clear hr0 hc0 hG
  go_enter Tryd.func16, Tryd.ntmps16
  go_wp2
  go_loop [3, 10] (fun v3 v10 => ∃ (r : Nat) (i : Nat), v3 = .int .u32 r ∧ v10 = .int .i64 i ∧ Aside0 (r < 4294967296) ∧ i ≤ l0.length ∧ Aside0 (sumP 4294967295 l0 = sumP r (l0.drop i))) (fun _ i => l0.length - (intOf i).toNat)
  case atStart => exact ⟨4294967295, 0, rfl, rfl, ⟨by decide⟩, Nat.zero_le _, ⟨rfl⟩⟩
  case round =>
    obtain ⟨r, i, rfl, rfl, hr, hi, hs⟩ := hrel
    by_cases hlt : i < l0.length
    · obtain ⟨ad, A1, c1, rfl, hx, hl, hC⟩ := at_L1 HR0.out (i : Int) (by omega) (by omega)
      rw [Int.toNat_natCast] at hx hl hC
      have hdc := Aside0.mk (drop_cons l0 i [] hlt)
      have hll2 := fits_row HF.out hlt
      generalize l0.getD i [] = row at hx hl hC hdc hll2
      have HL := Aside0.mk hl
      have HC := Aside0.mk hC
      clear hl hC
      have hll := fits_len HF.out
      go_wp2
      go_loop [3, 16] (fun v3 v16 => ∃ (r2 : Nat) (j : Nat), v3 = .int .u32 r2 ∧ v16 = .int .i64 j ∧ Aside0 (r2 < 4294967296) ∧ j ≤ row.length ∧ Aside0 (sumB r row = sumB r2 (row.drop j))) (fun _ i_ => row.length - (intOf i_).toNat)
      case atStart => exact ⟨r, 0, rfl, rfl, hr, Nat.zero_le _, ⟨rfl⟩⟩
      case round =>
        obtain ⟨r2, j, rfl, rfl, hr2, hj, hs2⟩ := hrel
        by_cases hlj : j < row.length
        · obtain ⟨ad1, rfl, hx1⟩ := Kd.at_int HC.out (j : Int) (by omega) (by omega)
          rw [Int.toNat_natCast] at hx1
          have hdj := Aside0.mk (drop_cons row j 0 hlj)
          rw [show rd row (j : Int) = row.getD j 0 from rfl] at hx1
          generalize row.getD j 0 = c at hx1 hdj
          have ec : c % 4294967296 = (((c % 4294967296).toNat : Nat) : Int) := (Int.toNat_of_nonneg (by omega)).symm
          have e1 : bits .xor .u32 (r2 : Int) (c % 4294967296) = ((r2 ^^^ (c % 4294967296).toNat : Nat) : Int) := by
            rw [ec, Int.toNat_natCast]; exact u32_xor_nat _ _ hr2.out (by omega)
          have hb1 := Aside0.mk (xor_lt32 hr2.out (show (c % 4294967296).toNat < 4294967296 by omega))
          generalize hn : r2 ^^^ (c % 4294967296).toNat = n1 at e1 hb1
          have Hn := Aside0.mk hn
          clear hn ec
          have e2 := and15 n1 hb1.out
          have e3 := HG.out (n1 % 16) (by omega)
          have hn16 : n1 % 16 < 16 := by omega
          have e4 : bits .xor .u32 ((n1 : Int) / 16) ((halfL.getD (n1 % 16) 0 : Nat) : Int) = ((hstep n1 : Nat) : Int) := u32_xor_nat (n1 / 16) _ (by have := hb1.out; omega) (halfL_lt _)
          have hb2 := Aside0.mk (hstep_lt hb1.out)
          generalize halfL.getD (n1 % 16) 0 = t1 at e3 e4
          generalize hm : n1 % 16 = m1 at e2 e3 hn16
          clear hm
          generalize hn : hstep n1 = n2 at e4 hb2
          have Hn2 := Aside0.mk hn
          clear hn
          have f2 := and15 n2 hb2.out
          have f3 := HG.out (n2 % 16) (by omega)
          have fn16 : n2 % 16 < 16 := by omega
          have f4 : bits .xor .u32 ((n2 : Int) / 16) ((halfL.getD (n2 % 16) 0 : Nat) : Int) = ((hstep n2 : Nat) : Int) := u32_xor_nat (n2 / 16) _ (by have := hb2.out; omega) (halfL_lt _)
          have hb3 := Aside0.mk (hstep_lt hb2.out)
          generalize halfL.getD (n2 % 16) 0 = t2 at f3 f4
          generalize hm : n2 % 16 = m2 at f2 f3 fn16
          clear hm
          generalize hn : hstep n2 = n3 at f4 hb3
          have Hn3 := Aside0.mk hn
          clear hn
          go_wp2
          go_round
          case rel => exact ⟨n3, j + 1, rfl, by go_num, hb3, by omega, ⟨by rw [hs2.out, hdj.out]; show sumB (bstep r2 c) _ = _; unfold bstep; rw [Hn.out, Hn2.out, Hn3.out]⟩⟩
          case measure => simp [intOf]; omega
        · have hje : j = row.length := by omega
          have Hj := Aside0.mk hje
          clear hje
          go_wp2
          go_round
          case rel => exact ⟨r2, i + 1, rfl, by go_num, hr2, by omega, ⟨by rw [hs.out, hdc.out]; show sumP (sumB r row) _ = _; rw [hs2.out, Hj.out, List.drop_length]; rfl⟩⟩
          case measure => simp [intOf]; omega
    · have hje : i = l0.length := by omega
      have Hj := Aside0.mk hje
      clear hje
      have e1 : bits .xor .u32 IntKind.u32.max (r : Int) = ((r ^^^ 4294967295 : Nat) : Int) := by
        rw [show IntKind.u32.max = ((4294967295 : Nat) : Int) from rfl, u32_xor_nat _ _ (by decide) hr.out, Nat.xor_comm]
      go_wp2
      go_ret
      exact ⟨by rw [hs.out, Hj.out, List.drop_length]; rfl, Drawn0.refl _⟩
end Go.Proofs.YthmnomdjpbfefaaDoor.M
