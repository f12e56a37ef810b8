-- written by programs of this session; what nothing here names is left out
import Derived.Test.YtaflofcnjakaaaaDoorPrZ0
import Derived.Test.YtaflofcnjakaaaaDoorProg
import Derived.Below
import Derived.Deep.Draws
import Derived.Deep.AppendLies
import Derived.Maps.AppendAt
import Derived.OwnWalk
import Derived.Laws.BytesArg
import Derived.Laws.MakeOwn
import Derived.Laws.OwnMore
import Derived.Deep.OwnRows
import Derived.Tactics
import Derived.Lib.ConvBytes
import Derived.Laws.Slices
import Derived.WalkKit
import Derived.KernelRfl
import Derived.RowKit3
import Derived.Deep.LoopGhost
import Derived.Deep.QuietTactic
import Derived.BigQuiet
import Derived.WideLaws
import Derived.Deep.DeepCutAuto
import Derived.Deep.CutBlock
import Derived.Deep.RegionHeld3
import Derived.Laws.Rows
import Derived.Lib.AppendStr
import Derived.ArgAppend
import Derived.Laws.IdiomCopy
import Derived.OrdersHeld
import Derived.Laws.BitsLemmas
import Derived.RowKit
import Derived.Laws.BitsAllLaws
import Derived.StillTailTactics
import Derived.Deep.WholeRow
import Derived.Maps.RangeWalk
import Derived.Maps.OwnOps
import Derived.WalkSpells
import Derived.Deep.MidRow
import Derived.Great.BuildSlice
import Derived.Deep.DrawnRows
import Derived.Great.Walk
namespace Go.Proofs.YtaflofcnjakaaaaDoor.Wr
open Go.RowKit Go.Proofs.YtaflofcnjakaaaaDoorW.PrintWords Go.Proofs.YtaflofcnjakaaaaDoorW.PrintLast Go.Proofs.YtaflofcnjakaaaaDoorW.PrintMore
set_option linter.unusedVariables false
set_option linter.unusedSimpArgs false
def halfL : List Nat := [0, 498536548, 997073096, 651767980, 1994146192, 1802195444, 1303535960, 1342533948, 3988292384, 4027552580, 3604390888, 3412177804, 2607071920, 2262029012, 2685067896, 3183342108]
def hstep (r : Nat) : Nat := (r / 16) ^^^ (halfL.getD (r % 16) 0)
def bstep (r : Nat) (c : Int) : Nat := hstep (hstep (r ^^^ (c % 4294967296).toNat))
def sumB (r : Nat) (b : List Int) : Nat := b.foldl bstep r
def sumP (r : Nat) (p : List (List Int)) : Nat := p.foldl sumB r
def fits (l : List (List Int)) : Bool := decide (l.length ≤ 9223372036854775807) && l.all fun b => decide (b.length ≤ 9223372036854775807)
def wire_Sum.f (l : List (List Int)) : Option Int := if fits l = true then some ((sumP 4294967295 l ^^^ 4294967295 : Nat) : Int) else none
theorem fits_row {l : List (List Int)} (h : fits l = true) {i : Nat} (hi : i < l.length) : (l.getD i []).length ≤ 9223372036854775807 := by
  unfold fits at h
  rw [Bool.and_eq_true, List.all_eq_true] at h
  rw [List.getD_eq_getElem?_getD, List.getElem?_eq_getElem hi]
  exact of_decide_eq_true (h.2 _ (List.getElem_mem hi))
theorem fits_len {l : List (List Int)} (h : fits l = true) : l.length ≤ 9223372036854775807 := by
  unfold fits at h
  rw [Bool.and_eq_true] at h
  exact of_decide_eq_true h.1
theorem halfL_lt (i : Nat) : halfL.getD i 0 < 4294967296 := by
  by_cases h : i < 16
  · have : ∀ j : Fin 16, halfL.getD j.1 0 < 4294967296 := by decide
    exact this ⟨i, h⟩
  · rw [List.getD_eq_getElem?_getD, List.getElem?_eq_none (by simp [halfL]; omega)]; decide
theorem xor_lt32 {a b : Nat} (ha : a < 4294967296) (hb : b < 4294967296) : a ^^^ b < 4294967296 := Nat.xor_lt_two_pow (n := 32) ha hb
theorem hstep_lt {r : Nat} (h : r < 4294967296) : hstep r < 4294967296 := xor_lt32 (by omega) (halfL_lt _)
theorem bstep_lt {r : Nat} (h : r < 4294967296) (c : Int) : bstep r c < 4294967296 := hstep_lt (hstep_lt (xor_lt32 h (by omega)))
theorem sumB_lt : ∀ (b : List Int) {r : Nat}, r < 4294967296 → sumB r b < 4294967296
  | [], _, h => h
  | c :: b, _, h => sumB_lt b (bstep_lt h c)
def Half (w : World) : Prop := ∀ i : Nat, i < 16 → w.cell? ⟨0, i, none⟩ = some (.int .u32 ((halfL.getD i 0 : Nat) : Int))
theorem Half.below {w w' : World} (h : Half w) (hb : Below w.heap.size w w') : Half w' := fun i hi =>
  (hb.cell (World.block_lt_of_cell? w _ (h i hi))).trans (h i hi)
theorem Half.drawn {w w' : World} (h : Half w) (hd : Drawn0 w w') : Half w' := by
  obtain ⟨n, rfl⟩ := hd
  exact h
theorem at_L1 {w : World} {A : Option Addr} {n : Nat} {xs : List (List Int)} (h : Kd.C (Kd.slice 5 (Kd.int .u8)) w A n xs) (i : Int) (h0 : 0 ≤ i) (h1 : i < n) : ∃ ad A0 c0, A = some ad ∧ w.cell? (ad.add i.toNat) = some (.slice A0 (xs.getD i.toNat []).length c0) ∧ (xs.getD i.toNat []).length ≤ c0 ∧ (Kd.int .u8).C w A0 (xs.getD i.toNat []).length (xs.getD i.toNat []) := by
  obtain ⟨ad, c, e, _, hK, hc0⟩ := Kd.C_get h ([] : List Int) i h0 h1
  have hc : ∀ j u, c[j]? = some u → w.cell? (ad.add (i.toNat * 1 + j)) = some u := hc0
  obtain ⟨A0, c0, rfl, l0, g0⟩ := hK
  exact ⟨ad, A0, c0, e, by have hq := hc 0 _ rfl; rwa [Nat.mul_one, Nat.add_zero] at hq, l0, g0⟩
theorem and15 (a : Nat) (h : a < 4294967296) : bits .and .u32 (a : Int) 15 = ((a % 16 : Nat) : Int) := by
  rw [show (15 : Int) = ((15 : Nat) : Int) from rfl, u32_and_nat a 15 h (by decide)]
  exact congrArg _ (Nat.and_two_pow_sub_one_eq_mod a 4)
theorem drop_cons {α : Type} (l : List α) (i : Nat) (d : α) (h : i < l.length) : l.drop i = l.getD i d :: l.drop (i + 1) := by
  rw [List.drop_eq_getElem_cons h, List.getD_eq_getElem?_getD, List.getElem?_eq_getElem h]; rfl
set_option maxHeartbeats 8000000 in
set_option maxRecDepth 100000 in
theorem wire_Sum.calls (A0 : Option Addr) (c0 : Nat) (l0 : List (List Int)) (r : Int) (w : World) (hr0 : Kd.C (Kd.slice 5 (Kd.int .u8)) w A0 l0.length l0) (hc0 : l0.length ≤ c0) (hG : Half w) (h : wire_Sum.f l0 = some r) :
    Calls Tryd.prog 39 #[.slice A0 l0.length c0] w fun e w' => e = .returned (.int .u32 r) ∧ Drawn0 w w' := by
  have hfit : fits l0 = true := by
    by_cases hf : fits l0 = true
    · exact hf
    · rw [wire_Sum.f, if_neg hf] at h; cases h
  rw [wire_Sum.f, if_pos hfit] at h
  obtain rfl := Option.some.inj h
  clear h
  have HF := Aside0.mk hfit
  clear hfit
  have HR0 := Aside0.mk hr0
  have HC0 := Aside0.mk hc0
  have HG := Aside0.mk hG
  clear hr0 hc0 hG
  go_enter Tryd.func39, Tryd.ntmps39
  go_wp2
  go_loop [3, 10] (fun v3 v10 => ∃ (r : Nat) (i : Nat), v3 = .int .u32 r ∧ v10 = .int .i64 i ∧ Aside0 (r < 4294967296) ∧ i ≤ l0.length ∧ Aside0 (sumP 4294967295 l0 = sumP r (l0.drop i))) (fun _ i => l0.length - (intOf i).toNat)
  case atStart => exact ⟨4294967295, 0, rfl, rfl, ⟨by decide⟩, Nat.zero_le _, ⟨rfl⟩⟩
  case round =>
    obtain ⟨r, i, rfl, rfl, hr, hi, hs⟩ := hrel
    by_cases hlt : i < l0.length
    · obtain ⟨ad, A1, c1, rfl, hx, hl, hC⟩ := at_L1 HR0.out (i : Int) (by omega) (by omega)
      rw [Int.toNat_natCast] at hx hl hC
      have hdc := Aside0.mk (drop_cons l0 i [] hlt)
      have hll2 := fits_row HF.out hlt
      generalize l0.getD i [] = row at hx hl hC hdc hll2
      have HL := Aside0.mk hl
      have HC := Aside0.mk hC
      clear hl hC
      have hll := fits_len HF.out
      go_wp2
      go_loop [3, 16] (fun v3 v16 => ∃ (r2 : Nat) (j : Nat), v3 = .int .u32 r2 ∧ v16 = .int .i64 j ∧ Aside0 (r2 < 4294967296) ∧ j ≤ row.length ∧ Aside0 (sumB r row = sumB r2 (row.drop j))) (fun _ i_ => row.length - (intOf i_).toNat)
      case atStart => exact ⟨r, 0, rfl, rfl, hr, Nat.zero_le _, ⟨rfl⟩⟩
      case round =>
        obtain ⟨r2, j, rfl, rfl, hr2, hj, hs2⟩ := hrel
        by_cases hlj : j < row.length
        · obtain ⟨ad1, rfl, hx1⟩ := Kd.at_int HC.out (j : Int) (by omega) (by omega)
          rw [Int.toNat_natCast] at hx1
          have hdj := Aside0.mk (drop_cons row j 0 hlj)
          rw [show rd row (j : Int) = row.getD j 0 from rfl] at hx1
          generalize row.getD j 0 = c at hx1 hdj
          have ec : c % 4294967296 = (((c % 4294967296).toNat : Nat) : Int) := (Int.toNat_of_nonneg (by omega)).symm
          have e1 : bits .xor .u32 (r2 : Int) (c % 4294967296) = ((r2 ^^^ (c % 4294967296).toNat : Nat) : Int) := by
            rw [ec, Int.toNat_natCast]; exact u32_xor_nat _ _ hr2.out (by omega)
          have hb1 := Aside0.mk (xor_lt32 hr2.out (show (c % 4294967296).toNat < 4294967296 by omega))
          generalize hn : r2 ^^^ (c % 4294967296).toNat = n1 at e1 hb1
          have Hn := Aside0.mk hn
          clear hn ec
          have e2 := and15 n1 hb1.out
          have e3 := HG.out (n1 % 16) (by omega)
          have hn16 : n1 % 16 < 16 := by omega
          have e4 : bits .xor .u32 ((n1 : Int) / 16) ((halfL.getD (n1 % 16) 0 : Nat) : Int) = ((hstep n1 : Nat) : Int) := u32_xor_nat (n1 / 16) _ (by have := hb1.out; omega) (halfL_lt _)
          have hb2 := Aside0.mk (hstep_lt hb1.out)
          generalize halfL.getD (n1 % 16) 0 = t1 at e3 e4
          generalize hm : n1 % 16 = m1 at e2 e3 hn16
          clear hm
          generalize hn : hstep n1 = n2 at e4 hb2
          have Hn2 := Aside0.mk hn
          clear hn
          have f2 := and15 n2 hb2.out
          have f3 := HG.out (n2 % 16) (by omega)
          have fn16 : n2 % 16 < 16 := by omega
          have f4 : bits .xor .u32 ((n2 : Int) / 16) ((halfL.getD (n2 % 16) 0 : Nat) : Int) = ((hstep n2 : Nat) : Int) := u32_xor_nat (n2 / 16) _ (by have := hb2.out; omega) (halfL_lt _)
          have hb3 := Aside0.mk (hstep_lt hb2.out)
          generalize halfL.getD (n2 % 16) 0 = t2 at f3 f4
          generalize hm : n2 % 16 = m2 at f2 f3 fn16
          clear hm
          generalize hn : hstep n2 = n3 at f4 hb3
          have Hn3 := Aside0.mk hn
          clear hn
          go_wp2
          go_round
          case rel => exact ⟨n3, j + 1, rfl, by go_num, hb3, by omega, ⟨by rw [hs2.out, hdj.out]; show sumB (bstep r2 c) _ = _; unfold bstep; rw [Hn.out, Hn2.out, Hn3.out]⟩⟩
          case measure => simp [intOf]; omega
        · have hje : j = row.length := by omega
          have Hj := Aside0.mk hje
          clear hje
          go_wp2
          go_round
          case rel => exact ⟨r2, i + 1, rfl, by go_num, hr2, by omega, ⟨by rw [hs.out, hdc.out]; show sumP (sumB r row) _ = _; rw [hs2.out, Hj.out, List.drop_length]; rfl⟩⟩
          case measure => simp [intOf]; omega
    · have hje : i = l0.length := by omega
      have Hj := Aside0.mk hje
      clear hje
      have e1 : bits .xor .u32 IntKind.u32.max (r : Int) = ((r ^^^ 4294967295 : Nat) : Int) := by
        rw [show IntKind.u32.max = ((4294967295 : Nat) : Int) from rfl, u32_xor_nat _ _ (by decide) hr.out, Nat.xor_comm]
      go_wp2
      go_ret
      exact ⟨by rw [hs.out, Hj.out, List.drop_length]; rfl, Drawn0.refl _⟩
end Go.Proofs.YtaflofcnjakaaaaDoor.Wr

namespace Go.Proofs.YtaflofcnjakaaaaDoor.M
open Go.RowKit Go.Maps Go.Proofs.YtaflofcnjakaaaaDoorW.PrintWords Go.Proofs.YtaflofcnjakaaaaDoorW.PrintLast Go.Proofs.YtaflofcnjakaaaaDoorW.PrintMore
set_option linter.unusedVariables false
set_option linter.unusedSimpArgs false
def sec : Kd (List Int) where
  sz := 512
  E := []
  K := fun _ l cs => l.length = 512 ∧ cs = nums .u8 l
  M := fun _ _ _ l cs => l.length = 512 ∧ cs = nums .u8 l
  K_len := by
    rintro w x cs ⟨h, rfl⟩
    rw [nums_length, h]
  K_one := by
    rintro w x cs ⟨h, rfl⟩ u hu
    obtain ⟨y, _, rfl⟩ := List.mem_map.1 hu
    rfl
  K_below := fun _ h => h
  K_of_M := fun h => h
  M_mono := fun _ h => h
  M_bound := fun h => h
  M_move := fun _ h => h
  M_lower := fun _ h => h
def Rs (w : World) (base : Nat) (v : Value) (l : List (List Int)) : Prop := Kd.R sec 108 w base (fun k => v.ownBlock = some k) v l
structure Chg (F : Nat → Prop) (w w' : World) : Prop where
  os : w'.os = w.os
  tape : w'.tape = w.tape
  output : w'.output = w.output
  size : w.heap.size ≤ w'.heap.size
  block : ∀ b, b < w.heap.size → ¬ F b → w'.heap[b]? = w.heap[b]?
theorem Chg.refl (F : Nat → Prop) (w : World) : Chg F w w := ⟨rfl, rfl, rfl, Nat.le_refl _, fun _ _ _ => rfl⟩
theorem Chg.trans {F G : Nat → Prop} {a b c : World} (h : Chg F a b) (k : Chg G b c) (hg : ∀ x, G x → F x ∨ a.heap.size ≤ x) : Chg F a c :=
  ⟨k.os.trans h.os, k.tape.trans h.tape, k.output.trans h.output, Nat.le_trans h.size k.size, fun x hx hn => (k.block x (Nat.lt_of_lt_of_le hx h.size) (fun hG => by rcases hg x hG with h1 | h1; exact hn h1; omega)).trans (h.block x hx hn)⟩
theorem Chg.mono {F G : Nat → Prop} {a b : World} (h : Chg F a b) (hg : ∀ x, F x → G x) : Chg G a b := ⟨h.os, h.tape, h.output, h.size, fun x hx hn => h.block x hx (fun hF => hn (hg x hF))⟩
theorem Chg.of_below {F : Nat → Prop} {a b : World} (h : Below a.heap.size a b) : Chg F a b := ⟨h.os, h.tape, h.output, h.size, fun x hx _ => h.block x hx⟩
theorem Chg.of_grown {F : Nat → Prop} {a b : World} {row : Option Nat} (h : a.grownBy b row) (hr : ∀ k, row = some k → F k) : Chg F a b := ⟨h.os, h.tape, h.output, h.size, fun x hx hn => h.block x hx (fun e => hn (hr x e.symm))⟩
theorem Chg.below {F : Nat → Prop} {w0 a b : World} {B : Nat} (h : Below B w0 a) (k : Chg F a b) (hB : B ≤ a.heap.size) (hF : ∀ x, F x → B ≤ x) : Below B w0 b :=
  ⟨k.os.trans h.os, k.tape.trans h.tape, k.output.trans h.output, Nat.le_trans h.size k.size, fun x hx => (k.block x (Nat.lt_of_lt_of_le hx hB) (fun hf => by have := hF x hf; omega)).trans (h.block x hx)⟩
theorem Chg.setCell {F : Nat → Prop} {a b : World} (h : Chg F a b) {g : Nat} (hg : F g) (j : Nat) (v : Value) : Chg F a (b.setCell ⟨g, j, none⟩ v) :=
  ⟨h.os, h.tape, h.output, by simpa [World.setCell] using h.size, fun x hx hn => (Below.heap_setCell b ⟨g, j, none⟩ v x (fun e => hn (e ▸ hg))).trans (h.block x hx hn)⟩
theorem Rs.step {w w1 : World} {base : Nat} {v : Value} {l : List (List Int)} (h : Rs w base v l) (hm : ∀ k, v.ownBlock = some k → k < w.heap.size → w1.heap[k]? = w.heap[k]?) : Rs w1 base v l := Kd.R_step h hm
theorem Rs.chg {F : Nat → Prop} {w w1 : World} {base : Nat} {v : Value} {l : List (List Int)} (h : Rs w base v l) (hc : Chg F w w1) (hF : ∀ k, v.ownBlock = some k → ¬ F k) : Rs w1 base v l := h.step (fun k hk hlt => hc.block k hlt (hF k hk))
theorem Rs.below {w w1 : World} {base : Nat} {v : Value} {l : List (List Int)} (h : Rs w base v l) (hb : Below w.heap.size w w1) : Rs w1 base v l := Kd.R_below h hb
theorem Rs.of {w : World} {base : Nat} {ok : Nat → Prop} {v : Value} {l : List (List Int)} (h : Kd.R sec 108 w base ok v l) : Rs w base v l :=
  ⟨fun k hk => hk, h.2.imp_ (fun _ _ hp => hp)⟩
theorem Rs.typed {w : World} {base : Nat} {v : Value} {l : List (List Int)} (h : Rs w base v l) {k : Nat} (hk : v.ownBlock = some k) : base ≤ k ∧ k < w.heap.size ∧ ∃ cs, w.heap[k]? = some (.cells cs 108 (0, 0)) :=
  ⟨Kd.R_base h k hk, Kd.R_lt h k hk, Kd.R_typed h k hk⟩
theorem Rs.each {w : World} {base : Nat} {v : Value} {l : List (List Int)} (h : Rs w base v l) : ∀ x ∈ l, x.length = 512 := by
  intro x hx
  obtain ⟨i, hi⟩ := List.getElem?_of_mem hx
  obtain ⟨_, inner, _, hr⟩ := h
  exact (hr.2 i x hi).1
def asIs (v : Value) : Option (DataW Value × List MemPlace) := some (.held v, [])
structure DS where
  n : Nat
  L : List (List Int)
  W : Nat → List (List Int)
  c : Nat
  r : Int
  wr : Int
  fl : Int
def Fp (g lb mb : Nat) (f : Nat → Value) (n : Nat) (b : Nat) : Prop := b = g ∨ b = lb ∨ b = mb ∨ ∃ i, i < n ∧ (f i).ownBlock = some b
structure DkIn (w : World) (base g : Nat) (s : DS) (lb cp mb : Nat) (f : Nat → Value) (k : Nat) (D : DataW Value) : Prop where
  hd : w.heap[g]? = some (.cells #[.slice (some ⟨lb, 0, none⟩) s.n cp, .map (some mb), .int .i64 s.r, .int .i64 s.wr, .int .i64 s.fl] 100 (0, 0))
  la : Rs w base (.slice (some ⟨lb, 0, none⟩) s.n cp) s.L
  mp : w.ownsMap Tryd.prog 3 asIs mb k D
  kc : k ≤ s.c
  at_ : ∀ i : Nat, i < s.n → D.atKey (.int .i64 i) (.held (.slice none 0 0)) = .held (f i)
  ks : ∀ kl, Maps.has D kl = true → ∃ i : Nat, i < s.n ∧ kl = .int .i64 i ∧ s.W i ≠ []
  rows : ∀ i, i < s.n → Rs w base (f i) (s.W i)
  wl : ∀ i, i < s.n → (s.W i).length ≤ s.c
  sep : ∀ i j b, i < s.n → j < s.n → (f i).ownBlock = some b → (f j).ownBlock = some b → i = j
  sepl : ∀ i, i < s.n → (f i).ownBlock ≠ some lb
  gb : base ≤ g
  mbb : base ≤ mb
  n2 : 2 ≤ s.n
  nm : s.n ≤ 65536
def DkAt (w : World) (base g : Nat) (F : Nat → Prop) (s : DS) : Prop := ∃ lb cp mb f k D, DkIn w base g s lb cp mb f k D ∧ ∀ b, F b ↔ Fp g lb mb f s.n b
section
variable {w w' : World} {base g lb cp mb k : Nat} {F G : Nat → Prop} {s : DS} {f : Nat → Value} {D : DataW Value}
theorem DkIn.foot (h : DkIn w base g s lb cp mb f k D) (b : Nat) (hb : Fp g lb mb f s.n b) : base ≤ b ∧ b < w.heap.size := by
  rcases hb with rfl | rfl | rfl | ⟨i, hi, hb⟩
  · exact ⟨h.gb, blk_lt h.hd⟩
  · exact ⟨(h.la.typed rfl).1, (h.la.typed rfl).2.1⟩
  · exact ⟨h.mbb, h.mp.lt⟩
  · exact ⟨((h.rows i hi).typed hb).1, ((h.rows i hi).typed hb).2.1⟩
theorem DkIn.lbg (h : DkIn w base g s lb cp mb f k D) : lb ≠ g := by
  obtain ⟨cs, hc⟩ := (h.la.typed rfl).2.2
  exact blk_ne hc h.hd (by decide)
theorem DkIn.mbg (h : DkIn w base g s lb cp mb f k D) : mb ≠ g := by
  obtain ⟨es, ck, hb, _⟩ := h.mp
  intro e
  rw [e, h.hd] at hb
  cases hb
theorem DkIn.mbl (h : DkIn w base g s lb cp mb f k D) : mb ≠ lb := by
  obtain ⟨es, ck, hb, _⟩ := h.mp
  obtain ⟨cs, hc⟩ := (h.la.typed rfl).2.2
  intro e
  rw [e, hc] at hb
  cases hb
theorem DkIn.rowg (h : DkIn w base g s lb cp mb f k D) {i b : Nat} (hi : i < s.n) (hb : (f i).ownBlock = some b) : b ≠ g ∧ b ≠ mb ∧ b ≠ lb := by
  obtain ⟨cs, hc⟩ := ((h.rows i hi).typed hb).2.2
  refine ⟨blk_ne hc h.hd (by decide), ?_, fun e => h.sepl i hi (e ▸ hb)⟩
  obtain ⟨es, ck, hm, _⟩ := h.mp
  intro e
  rw [← e, hc] at hm
  cases hm
theorem DkIn.chg (h : DkIn w base g s lb cp mb f k D) (hc : Chg G w w') (hG : ∀ b, Fp g lb mb f s.n b → ¬ G b) : DkIn w' base g s lb cp mb f k D := by
  refine ⟨(hc.block g (blk_lt h.hd) (hG g (.inl rfl))).trans h.hd, h.la.chg hc (fun b hb => hG b (.inr (.inl (Option.some.inj hb).symm))), ?_, h.kc, h.at_, h.ks, fun i hi => (h.rows i hi).chg hc (fun b hb => hG b (.inr (.inr (.inr ⟨i, hi, hb⟩)))), h.wl, h.sep, h.sepl, h.gb, h.mbb, h.n2, h.nm⟩
  obtain ⟨es, ck, hb, r⟩ := h.mp
  exact ⟨es, ck, (hc.block mb (blk_lt hb) (hG mb (.inr (.inr (.inl rfl))))).trans hb, r⟩
theorem DkAt.chg (h : DkAt w base g F s) (hc : Chg G w w') (hG : ∀ b, F b → ¬ G b) : DkAt w' base g F s := by
  obtain ⟨lb, cp, mb, f, k, D, h1, h2⟩ := h
  exact ⟨lb, cp, mb, f, k, D, h1.chg hc (fun b hb => hG b ((h2 b).2 hb)), h2⟩
theorem DkAt.below (h : DkAt w base g F s) (hb : Below w.heap.size w w') : DkAt w' base g F s := h.chg (G := fun _ => False) (Chg.of_below hb) (fun _ _ => id)
theorem DkAt.foot (h : DkAt w base g F s) (b : Nat) (hb : F b) : base ≤ b ∧ b < w.heap.size := by
  obtain ⟨lb, cp, mb, f, k, D, h1, h2⟩ := h
  exact h1.foot b ((h2 b).1 hb)
theorem DkAt.typed (h : DkAt w base g F s) {b t : Nat} {cs : Array Value} {fr : Nat × Nat} (hb : w.heap[b]? = some (.cells cs t fr)) (h1 : t ≠ 100) (h2 : t ≠ 108) : ¬ F b := by
  obtain ⟨lb, cp, mb, f, k, D, h3, h4⟩ := h
  intro hF
  rcases (h4 b).1 hF with rfl | rfl | rfl | ⟨i, hi, hbi⟩
  · rw [h3.hd] at hb; injection hb with hb; injection hb with _ hb _; exact h1 hb.symm
  · obtain ⟨cs, hc⟩ := (h3.la.typed rfl).2.2
    rw [hc] at hb; injection hb with hb; injection hb with _ hb _; exact h2 hb.symm
  · obtain ⟨es, ck, hm, _⟩ := h3.mp
    rw [hm] at hb; cases hb
  · obtain ⟨cs, hc⟩ := ((h3.rows i hi).typed hbi).2.2
    rw [hc] at hb; injection hb with hb; injection hb with _ hb _; exact h2 hb.symm
theorem DkIn.acts (h : DkIn w base g s lb cp mb f k D) (j : Nat) (x : Int) (s' : DS) (hs : s'.n = s.n ∧ s'.L = s.L ∧ s'.W = s.W ∧ s'.c = s.c)
    (hj : #[Value.slice (some ⟨lb, 0, none⟩) s.n cp, .map (some mb), .int .i64 s.r, .int .i64 s.wr, .int .i64 s.fl].setIfInBounds j (.int .i64 x) = #[Value.slice (some ⟨lb, 0, none⟩) s.n cp, .map (some mb), .int .i64 s'.r, .int .i64 s'.wr, .int .i64 s'.fl]) :
    DkIn (w.setCell ⟨g, j, none⟩ (.int .i64 x)) base g s' lb cp mb f k D := by
  obtain ⟨e1, e2, e3, e4⟩ := hs
  have far : ∀ b, b ≠ g → (w.setCell ⟨g, j, none⟩ (.int .i64 x)).heap[b]? = w.heap[b]? := fun b hb => Below.heap_setCell w ⟨g, j, none⟩ _ b hb
  refine ⟨?_, ?_, ?_, by rw [e4]; exact h.kc, by rw [e1]; exact h.at_, by rw [e1, e3]; exact h.ks, ?_, by rw [e1, e3, e4]; exact h.wl, by rw [e1]; exact h.sep, by rw [e1]; exact h.sepl, h.gb, h.mbb, by rw [e1]; exact h.n2, by rw [e1]; exact h.nm⟩
  · rw [e1, ← hj]; exact blk_set h.hd j _
  · rw [e1, e2]; exact h.la.step (fun b hb _ => far b (by cases hb; exact h.lbg))
  · obtain ⟨es, ck, hb, r⟩ := h.mp
    exact ⟨es, ck, (far mb h.mbg).trans hb, r⟩
  · rw [e1, e3]; exact fun i hi => (h.rows i hi).step (fun b hb _ => far b (h.rowg hi hb).1)
end
end Go.Proofs.YtaflofcnjakaaaaDoor.M

namespace Go.Proofs.YtaflofcnjakaaaaDoor.M
open Go.RowKit Go.Maps Go.Proofs.YtaflofcnjakaaaaDoorW.PrintWords Go.Proofs.YtaflofcnjakaaaaDoorW.PrintLast Go.Proofs.YtaflofcnjakaaaaDoorW.PrintMore
set_option linter.unusedVariables false
set_option linter.unusedSimpArgs false
theorem info5 : (Tryd.prog.info? 5).map (fun i => (i.zero, i.size, i.bytes)) = some (some (.int .u8 0), 1, 1) := by kernel_rfl
theorem empty_row {d : IntKind} (W : World) (e base : Nat) (hb : base ≤ W.heap.size) : Kd.R (Kd.int d) e (W.alloc (.cells #[] e)) base (fun _ => True) (.slice (some ⟨W.heap.size, 0, none⟩) 0 0) [] := by
  have h := World.ownsRow_lit (base := base) (e := e) (size := 1) W #[] 0 hb (by decide) (by simp)
  exact Kd.R_of_own (enc := Value.int d) (h1 := fun _ => rfl) (xs := []) (by simpa [encs] using h) (fun _ _ => trivial)
set_option maxHeartbeats 4000000 in
set_option maxRecDepth 100000 in
theorem clone_calls (ad : Addr) (n c : Nat) (xs : List Int) (w : World) (h : (Kd.int .u8).C w (some ad) n xs) (hl : n ≤ 1000000) :
    Calls Tryd.prog 49 #[.slice (some ad) n c] w fun e w' => ∃ v, e = .returned v ∧ Kd.R (Kd.int .u8) 5 w' w.heap.size (fun _ => True) v xs ∧ Below w.heap.size w w' := by
  have hq : ∀ W : World, (binOp .eql 28 (.slice (some ad) n c) (.slice none 0 0)).run Tryd.prog W = .ok (.bool false) W := fun W => Lib.run_eql_slice_nil W _ 5 (some ad) n c 0 0 Tryd.underlying28
  have HH := Aside0.mk h
  have HL := Aside0.mk hl
  clear h hl
  go_enter Tryd.func49, Tryd.ntmps49
  go_wp2_with ((with_reducible refine gate_builtin (b := .append) (xs := #[.tmp 5, .tmp 6]) rfl ?_); (try (refine gate_guard (by rfl) ?_; dsimp only)); at_builtin; refine Kd.R_append_rows (Kd.int .u8) (w0 := w) w.heap.size rfl (.tmp 5) (.tmp 6) 28 5 (.int .u8 0) 1 rfl Tryd.underlying28 info5 rfl (by decide) (by omega) (.slice (some ⟨w.heap.size, 0, none⟩) 0 0) ([] : List Int) xs (some ad) n c (fun _ => True) (fun _ => False) rfl rfl ?aO ?aR (fun _ _ h => h) (fun _ h => h.elim) ?aF ?aB ?aS ?aL ?_; (case aO => exact empty_row w 5 w.heap.size (Nat.le_refl _)); (case aR => exact Kd.C_below HH.out (below_alloc (Below.refl _ _) _)); (case aF => exact (fun k hk => trivial)); (case aB => exact below_alloc (Below.refl _ _) _); (case aS => simp); (case aL => (have := HL.out; simp; omega)); intro v9 w9 ho hb hg hat)
  go_ret
  exact ⟨v9, rfl, by simpa using ho, hb⟩
theorem info91 : (Tryd.prog.info? 108).map (fun i => (i.zero, i.size, i.bytes)) = some (some (.agg (Array.replicate 512 (.int .u8 0))), 512, 512) := by kernel_rfl
def zeros : List Int := List.replicate 512 0
theorem zeros_len : zeros.length = 512 := by unfold zeros; rw [List.length_replicate]
theorem zeros_nums : nums .u8 zeros = (Array.replicate 512 (Value.int .u8 0)).toList := by unfold zeros nums; rw [List.map_replicate, Array.toList_replicate]
def DS.fresh (n : Nat) (L : List (List Int)) : DS := ⟨n, L, fun _ => [], 0, 0, 0, 0⟩
set_option maxHeartbeats 4000000 in
set_option maxRecDepth 100000 in
theorem many_calls (n : Int) (w : World) : Calls Tryd.prog 46 #[.int .i64 n] w fun e w' => e = .returned (.bool (decide (2 ≤ n ∧ n ≤ 65536))) ∧ w' = w := by
  by_cases h : 2 ≤ n
  · have h1 : decide (2 ≤ n) = true := decide_eq_true h
    by_cases h2 : n ≤ 65536
    · have h3 : decide (n ≤ 65536) = true := decide_eq_true h2
      rw [show decide (2 ≤ n ∧ n ≤ 65536) = true from decide_eq_true ⟨h, h2⟩]
      clear h h2
      go_enter Tryd.func46, Tryd.ntmps46
      go_wp2
      go_ret
      exact ⟨rfl, rfl⟩
    · have h3 : decide (n ≤ 65536) = false := decide_eq_false h2
      rw [show decide (2 ≤ n ∧ n ≤ 65536) = false from decide_eq_false (fun h => h2 h.2)]
      clear h h2
      go_enter Tryd.func46, Tryd.ntmps46
      go_wp2
      go_ret
      exact ⟨rfl, rfl⟩
  · have h1 : decide (2 ≤ n) = false := decide_eq_false h
    rw [show decide (2 ≤ n ∧ n ≤ 65536) = false from decide_eq_false (fun h2 => h h2.1)]
    clear h
    go_enter Tryd.func46, Tryd.ntmps46
    go_wp2
    go_ret
    exact ⟨rfl, rfl⟩
set_option maxHeartbeats 4000000 in
set_option maxRecDepth 100000 in
theorem outside_calls (g : Nat) (i : Int) (n : Nat) (A : Option Addr) (c : Nat) (w : World) (hd : w.cell? ⟨g, 0, none⟩ = some (.slice A n c)) : Calls Tryd.prog 51 #[.pointer (some ⟨g, 0, none⟩), .int .i64 i] w fun e w' => e = .returned (.bool (!decide (0 ≤ i ∧ i < (n : Int)))) ∧ w' = w := by
  by_cases h : i < 0
  · have h1 : decide (i < 0) = true := decide_eq_true h
    rw [show (!decide (0 ≤ i ∧ i < (n : Int))) = true by simp; omega]
    clear h
    go_enter Tryd.func51, Tryd.ntmps51
    go_wp2
    go_ret
    exact ⟨rfl, rfl⟩
  · have h1 : decide (i < 0) = false := decide_eq_false h
    by_cases h2 : (n : Int) ≤ i
    · have h3 : decide ((n : Int) ≤ i) = true := decide_eq_true h2
      rw [show (!decide (0 ≤ i ∧ i < (n : Int))) = true by simp; omega]
      clear h h2
      go_enter Tryd.func51, Tryd.ntmps51
      go_wp2
      go_ret
      exact ⟨rfl, rfl⟩
    · have h3 : decide ((n : Int) ≤ i) = false := decide_eq_false h2
      rw [show (!decide (0 ≤ i ∧ i < (n : Int))) = false by simp; omega]
      clear h h2
      go_enter Tryd.func51, Tryd.ntmps51
      go_wp2
      go_ret
      exact ⟨rfl, rfl⟩
theorem fresh_at {w : World} {base lb cp n : Nat} {L : List (List Int)} (hr : Rs w base (.slice (some ⟨lb, 0, none⟩) n cp) L) (hb : base ≤ w.heap.size) (h2 : 2 ≤ n) (hm : n ≤ 65536) :
    ∃ F, DkAt ((w.alloc (.map #[] 0)).alloc (.cells #[.slice (some ⟨lb, 0, none⟩) n cp, .map (some w.heap.size), .int .i64 0, .int .i64 0, .int .i64 0] 100)) base (w.heap.size + 1) F (DS.fresh n L) := by
  have hs : (w.alloc (.map #[] 0)).heap.size = w.heap.size + 1 := by simp
  refine ⟨_, lb, cp, w.heap.size, fun _ => .slice none 0 0, 0, .map [], ⟨?_, ?_, ?_, Nat.le_refl _, fun i _ => rfl, fun kl h => by simp [Maps.has] at h, fun i _ => ⟨fun k hk => by simp [Value.ownBlock] at hk, OwnRow.none_ _ _ _ _ _⟩, fun i _ => Nat.le_refl _, fun i j b _ _ h => by simp [Value.ownBlock] at h, fun i _ => by simp [Value.ownBlock], by omega, hb, h2, hm⟩, fun b => Iff.rfl⟩
  · have := heap_alloc_new (w.alloc (.map #[] 0)) (.cells #[.slice (some ⟨lb, 0, none⟩) n cp, .map (some w.heap.size), .int .i64 0, .int .i64 0, .int .i64 0] 100)
    rw [hs] at this
    exact this
  · exact (hr.below (below_alloc (Below.refl _ _) _)).below (below_alloc (Below.refl _ _) _)
  · exact (World.ownsMap_made w _ _ _).alloc _
set_option maxHeartbeats 4000000 in
set_option maxRecDepth 100000 in
theorem new_calls (n : Nat) (w : World) (h2 : 2 ≤ n) (hm : n ≤ 65536) :
    Calls Tryd.prog 15 #[.int .i64 (n : Int)] w fun e w' => ∃ g F, e = .returned (.tuple #[.pointer (some ⟨g, 0, none⟩), .int .i64 0]) ∧ DkAt w' w.heap.size g F (DS.fresh n (List.replicate n zeros)) ∧ Below w.heap.size w w' := by
  have Hmany := Aside0.mk (fun (W : World) => (show Calls Tryd.prog 46 #[.int .i64 (n : Int)] W fun e w' => e = .returned (.bool true) ∧ w' = W from by
    have h_ := many_calls (n : Int) W
    rw [show decide (2 ≤ (n : Int) ∧ (n : Int) ≤ 65536) = true from decide_eq_true (by omega)] at h_
    exact h_))
  have H2 := Aside0.mk h2
  have HM := Aside0.mk hm
  have hmm := @run_makeMap Tryd.prog
  have hz := Aside0.mk zeros_nums
  clear h2 hm
  go_enter Tryd.func15, Tryd.ntmps15
  go_wp2_with (first
    | (go_at_call 46; (with_reducible refine (Hmany.out _).mono ?_); rintro e w1 ⟨rfl, hw_⟩; subst hw_)
    | (at_make; refine Kd.R_make sec (w0 := w1) w1.heap.size 108 rfl (N := 8) rfl 97 (.tmp 7) (.tmp 7) rfl (n : Int) rfl rfl Tryd.underlying97 (.agg (Array.replicate 512 (.int .u8 0))) 512 info91 (by simp [sec, Value.cells]) (by decide) (by decide) zeros (ok := fun _ => True) (okp := fun _ => True) ?mz (fun _ h => h) trivial (by omega) ?ml (Below.refl _ _) (Nat.le_refl _) ?_; (case mz => exact ⟨zeros_len, hz.out.symm⟩); (case ml => have := HM.out; omega); intro v8 w2 hr hb hg hat; obtain ⟨lb, cp, e8, _, _, _⟩ := Kd.R_form hr (by rw [List.length_replicate]; have := H2.out; omega); rw [List.length_replicate, Int.toNat_natCast] at e8; subst e8; rw [Int.toNat_natCast] at hr; have HR := Aside0.mk (Rs.of hr); have HB := Aside0.mk hb; clear hr hb hg hat))
  go_ret2
  obtain ⟨F, hF⟩ := fresh_at HR.out HB.out.size H2.out HM.out
  exact ⟨_, F, rfl, hF, below_alloc (below_alloc HB.out _) _⟩
set_option maxHeartbeats 4000000 in
set_option maxRecDepth 100000 in
theorem new_none (n : Int) (w : World) (h : ¬ (2 ≤ n ∧ n ≤ 65536)) :
    Calls Tryd.prog 15 #[.int .i64 n] w fun e w' => e = .returned (.tuple #[.pointer none, .int .i64 30]) ∧ w' = w := by
  have Hmany := Aside0.mk (fun (W : World) => (show Calls Tryd.prog 46 #[.int .i64 n] W fun e w' => e = .returned (.bool false) ∧ w' = W from by
    have h_ := many_calls n W
    rw [show decide (2 ≤ n ∧ n ≤ 65536) = false from decide_eq_false h] at h_
    exact h_))
  clear h
  go_enter Tryd.func15, Tryd.ntmps15
  go_wp2_with (go_at_call 46; (with_reducible refine (Hmany.out _).mono ?_); rintro e w1 ⟨rfl, hw_⟩; subst hw_)
  go_ret2
  exact ⟨rfl, rfl⟩
end Go.Proofs.YtaflofcnjakaaaaDoor.M

namespace Go.Proofs.YtaflofcnjakaaaaDoor.M
open Go.RowKit Go.Maps Go.Proofs.YtaflofcnjakaaaaDoorW.PrintWords Go.Proofs.YtaflofcnjakaaaaDoorW.PrintLast Go.Proofs.YtaflofcnjakaaaaDoorW.PrintMore
set_option linter.unusedVariables false
set_option linter.unusedSimpArgs false
def DS.put (s : DS) (i : Nat) (b : List Int) : DS := ⟨s.n, s.L, fun j => if j = i then s.W i ++ [b] else s.W j, s.c + 1, s.r, wrap64 (s.wr + 1), s.fl⟩
theorem spot_of_C {w : World} {ad : Addr} {n : Nat} {xs : List Int} (h : (Kd.int .u8).C w (some ad) n xs) (hn : 0 < n) : ad.spot = none := by
  obtain ⟨ad', e, hc⟩ := Kd.at_int h 0 (by omega) (by omega)
  cases e
  cases hs : ad.spot with
  | none => rfl
  | some q =>
    exfalso
    rw [show ad.add (0 : Int).toNat = ad from rfl] at hc
    unfold World.cell? at hc
    split at hc
    · simp [hs] at hc
    · cases hc
theorem rangeAt_of_C {w : World} {ad : Addr} {n : Nat} {xs : List Int} (h : (Kd.int .u8).C w (some ad) n xs) (hs : ad.spot = none) : w.rangeAt ad.block ad.off (nums .u8 xs) := by
  intro j v hv
  obtain ⟨hl, _, hc⟩ := h
  have hj : j < xs.length := by
    have := (List.getElem?_eq_some_iff.1 hv).1
    rwa [nums_length] at this
  obtain ⟨ad', e, hcell⟩ := hc (by omega)
  cases e
  obtain ⟨cs, hcl, hk, hcell⟩ := hcell j _ (List.getElem?_eq_getElem hj)
  have hk' : cs = [.int .u8 xs[j]] := hk
  have h1 := hcell 0 (.int .u8 xs[j]) (by rw [hk']; rfl)
  have hv' : v = .int .u8 xs[j] := by
    rw [nums, List.getElem?_map, List.getElem?_eq_getElem hj] at hv
    exact (Option.some.inj hv).symm
  rw [hv']
  rw [show j * (Kd.int .u8).sz + 0 = j from Nat.mul_one j] at h1
  rw [← h1]
  congr 1
  obtain ⟨b, o, sp⟩ := ad
  dsimp only at hs ⊢
  subst hs
  exact (Addr.add_mid b o j).symm
theorem sap (A : Option Addr) (c : Nat) (W : World) : (Instr.arrayAt 108 (.slice A 512 c)).run Tryd.prog W = .ok (.pointer A) W := by
  have h := run_underlying Tryd.underlying108 W
  simp [Instr.arrayAt, Sem.run_bind, h]
theorem key_int (i : Int) (h : -9223372036854775808 ≤ i ∧ i ≤ 9223372036854775807) : keyOf Tryd.prog 3 (.int .i64 i) = some (.int .i64 i) :=
  keyOf_int_mk Tryd.underlying3 (by simp [Lit.wf, IntKind.min, IntKind.max, IntKind.signed, IntKind.bits]; omega)
theorem keyed : Keyed Tryd.prog 3 := int_keyed Tryd.underlying3
theorem zero86 (W : World) : (zeroValue 97).run Tryd.prog W = .ok (.slice none 0 0) W := by kernel_rfl
section
variable {w w' : World} {base g lb cp mb k : Nat} {F G : Nat → Prop} {s : DS} {f : Nat → Value} {D : DataW Value}
theorem DkIn.look (h : DkIn w base g s lb cp mb f k D) (i : Nat) (hi : i < s.n) : (Instr.lookup 98 (.map (some mb)) (.int .i64 (i : Int)) false).run Tryd.prog w = .ok (f i) w := by
  have hm := h.nm
  obtain ⟨v, ps, hrun, hv⟩ := h.mp.lookup keyed Tryd.underlying98 (zero86 w) (zd := .held (.slice none 0 0)) (zp := []) rfl (key_int (i : Int) (by omega))
  have e := h.at_ i hi
  have hv' : (some (DataW.held v, ([] : List MemPlace))) = some (D.atKey (.int .i64 (i : Int)) (.held (.slice none 0 0)), ps) := hv
  rw [e] at hv'
  have : v = f i := by
    have h1 := congrArg Prod.fst (Option.some.inj hv')
    exact DataW.held.inj h1
  rw [← this]
  exact hrun
end
theorem fold_zip : ∀ (l : List Value) (k : Nat) (cs : List Value), k + l.length ≤ cs.length → (l.zipIdx k).foldl (fun (a : Array Value) (p : Value × Nat) => a.setIfInBounds (0 + p.2) p.1) cs.toArray = (cs.take k ++ l ++ cs.drop (k + l.length)).toArray
  | [], k, cs, h => by simp
  | x :: l, k, cs, h => by
    rw [List.length_cons] at h
    rw [List.zipIdx_cons, List.foldl_cons]
    simp only [Nat.zero_add, List.setIfInBounds_toArray]
    have h1 := fold_zip l (k + 1) (cs.set k x) (by rw [List.length_set]; omega)
    simp only [Nat.zero_add] at h1
    rw [h1]
    congr 1
    rw [List.take_set, List.drop_set_of_lt (by omega), List.take_succ_eq_append_getElem (by omega), List.length_cons]
    rw [List.set_append_right _ _ (by rw [List.length_take]; omega)]
    simp [Nat.min_eq_left (show k ≤ cs.length by omega), show k + 1 + l.length = k + (l.length + 1) by omega]
theorem run_bs (cells : Array Value) (h : cells.size = 512) (v : Value) (hv : v.cells = cells) (W : World) : (Instr.buildSlice 97 1 #[(0, v)]).run Tryd.prog W = .ok (.slice (some ⟨W.heap.size, 0, none⟩) 1 1) (W.alloc (.cells cells 108)) := by
  obtain ⟨i, hi, hz, hsz, hby⟩ := info_parts info91
  generalize Value.agg (Array.replicate 512 (.int .u8 0)) = zv at hz
  refine run_buildSlice W _ _ 1 _ cells i zv Tryd.underlying97 hi hz (by rw [hsz]; decide) (by rw [hsz]; decide) ?_
  have hl : ((Array.range (1 * i.size)).map (zv.cells[· % zv.cells.size]!)).size = 512 := by
    rw [Array.size_map, Array.size_range, hsz]
  generalize (Array.range (1 * i.size)).map (zv.cells[· % zv.cells.size]!) = z at hl
  have h1 := fold_zip cells.toList 0 z.toList (by rw [Array.length_toList, Array.length_toList, h, hl]; omega)
  rw [Array.toArray_toList] at h1
  have h2 : cells.zipIdx.foldl (fun cs (p : Value × Nat) => cs.setIfInBounds (0 + p.2) p.1) z = (cells.toList.zipIdx 0).foldl (fun cs (p : Value × Nat) => cs.setIfInBounds (0 + p.2) p.1) z := by
    rw [← Array.foldl_toList, Array.toList_zipIdx]
  rw [h1] at h2
  have h3 : (z.toList.take 0 ++ cells.toList ++ z.toList.drop (0 + cells.toList.length)).toArray = cells := by
    rw [List.drop_of_length_le (by rw [Array.length_toList, Array.length_toList, h, hl]; omega), List.append_nil, List.take_zero, List.nil_append, Array.toArray_toList]
  rw [h3] at h2
  have h4 : ((v.cells.size ≠ i.size) || decide (0 * i.size + v.cells.size > z.size)) = false := by rw [hv, h, hsz, hl]; decide
  show Instr.fill _ z [(0, v)] = some cells
  unfold Instr.fill
  simp only [h4, Bool.false_eq_true, if_false]
  unfold Instr.fill
  rw [hv, Nat.zero_mul]
  exact congrArg some h2
theorem wp_bs' {o : Oper} {x : Operand} {a : Act} {W : World} {K : Act → World → Prop} {Q : Exit → Act → World → Prop} (ho : o.op = .buildSlice 97 1 #[(0, x)]) (h : (a.eval x).cells.size = 512) :
    Oper.wp Tryd.prog o a W K Q = K (a.put o.dst (.slice (some ⟨W.heap.size, 0, none⟩) 1 1)) (W.alloc (.cells (a.eval x).cells 108)) := by
  have h1 := run_bs (a.eval x).cells h (a.eval x) rfl W
  unfold Oper.wp execOp
  simp only [ho, Sem.run_bind, List.map_toArray, List.map_cons, List.map_nil, h1, Result.andThen_ok]
  rfl
theorem wp_bs {d : Option Tmp} {x : Operand} {t : TypeId} {p : String} {af : Array Edge} {gd : Option (Nat × Bool)} {a : Act} {W : World} {K : Act → World → Prop} {Q : Exit → Act → World → Prop} (h : (a.eval x).cells.size = 512) :
    Oper.wp Tryd.prog ⟨d, .buildSlice 97 1 #[(0, x)], t, p, af, gd⟩ a W K Q = K (a.put d (.slice (some ⟨W.heap.size, 0, none⟩) 1 1)) (W.alloc (.cells (a.eval x).cells 108)) := wp_bs' rfl h
attribute [local go_sem ↓] Go.wp_at_zero Go.wp_at_succ wp_bs
end Go.Proofs.YtaflofcnjakaaaaDoor.M

namespace Go.Proofs.YtaflofcnjakaaaaDoor.M
open Go.RowKit Go.Maps Go.Proofs.YtaflofcnjakaaaaDoorW.PrintWords Go.Proofs.YtaflofcnjakaaaaDoorW.PrintLast Go.Proofs.YtaflofcnjakaaaaDoorW.PrintMore
set_option linter.unusedVariables false
set_option linter.unusedSimpArgs false
attribute [local go_sem ↓] Go.wp_at_zero Go.wp_at_succ wp_bs
section
variable {w w2 w3 w4 : World} {base g lb cp mb k i : Nat} {s : DS} {f : Nat → Value} {D : DataW Value} {b : List Int} {v1 : Value}
theorem write_end (hi : i < s.n) (hx : Chg (Fp g lb mb f s.n) w w2) (h : DkIn w2.drew base g ⟨s.n, s.L, s.W, s.c, s.r, wrap64 (s.wr + 1), s.fl⟩ lb cp mb f k D)
    (ho : Kd.R sec 108 w3 base (fun x => (f i).ownBlock = some x ∨ w2.drew.heap.size ≤ x) v1 (s.W i ++ [b]) ∧ w2.drew.grownBy w3 (f i).ownBlock ∧ (v1.ownBlock = (f i).ownBlock ∨ ∃ q, v1.ownBlock = some q ∧ w2.drew.heap.size ≤ q) ∧ w4.ownsMap Tryd.prog 3 asIs mb (k + 1) (D.put (.int .i64 (i : Int)) (.held v1)) ∧ w3.grownBy w4 (some mb)) :
    ∃ F', DkAt w4 base g F' (s.put i b) ∧ (∀ x, F' x → Fp g lb mb f s.n x ∨ w.heap.size ≤ x) ∧ Chg (Fp g lb mb f s.n) w w4 := by
  obtain ⟨hr, hg, hat, hown, hgr⟩ := ho
  have hh : w2.drew.heap = w2.heap := rfl
  have hc3 : Chg (fun x => (f i).ownBlock = some x) w2.drew w3 := Chg.of_grown hg (fun x hx => hx)
  have hc4 : Chg (fun x => x = mb) w3 w4 := Chg.of_grown hgr (fun x hx => (Option.some.inj hx).symm)
  have hc : Chg (fun x => x = mb ∨ (f i).ownBlock = some x) w2.drew w4 := (hc3.mono (fun x hx => .inr hx)).trans hc4 (fun x hx => .inl (.inl hx))
  have hkey : WideAt.IsKeyLit (.int .i64 (i : Int)) := trivial
  have hf : ∀ j, j ≠ i → ∀ x, j < s.n → (f j).ownBlock = some x → v1.ownBlock = some x → False := by
    intro j hj x hjn hx hv
    rcases hat with e | ⟨q, e, hq⟩
    · rw [e] at hv
      exact hj (h.sep j i x hjn hi hx hv)
    · rw [e] at hv
      have := ((h.rows j hjn).typed hx).2.1
      cases hv
      omega
  refine ⟨Fp g lb mb (fun j => if j = i then v1 else f j) s.n, ⟨lb, cp, mb, fun j => if j = i then v1 else f j, k + 1, D.put (.int .i64 (i : Int)) (.held v1), ⟨?_, ?_, hown, Nat.succ_le_succ h.kc, ?_, ?_, ?_, ?_, ?_, ?_, h.gb, h.mbb, h.n2, h.nm⟩, fun x => Iff.rfl⟩, ?_, ?_⟩
  · exact (hc.block g (blk_lt h.hd) (fun e => by rcases e with e | e; exact h.mbg e.symm; exact (h.rowg hi e).1 rfl)).trans h.hd
  · exact h.la.chg hc (fun x hx e => by cases hx; rcases e with e | e; exact h.mbl e.symm; exact (h.rowg hi e).2.2 rfl)
  · intro j hj
    by_cases e : j = i
    · subst e
      rw [if_pos rfl]
      exact atKey_put_same (h.mp.isMap) hkey _ _
    · rw [if_neg e]
      exact (atKey_put_other (fun e2 => e (by injection e2 with _ e2; omega)) _ _).trans (h.at_ j hj)
  · intro kl hkl
    by_cases e : kl = .int .i64 (i : Int)
    · exact ⟨i, hi, e, by show (if i = i then s.W i ++ [b] else s.W i) ≠ []; rw [if_pos rfl]; simp⟩
    · rw [has_put_other e] at hkl
      obtain ⟨j, hj, e1, e2⟩ := h.ks kl hkl
      refine ⟨j, hj, e1, ?_⟩
      show (if j = i then s.W i ++ [b] else s.W j) ≠ []
      by_cases e3 : j = i
      · rw [if_pos e3]; simp
      · rw [if_neg e3]; exact e2
  · intro j hj
    show Rs w4 base (if j = i then v1 else f j) (if j = i then s.W i ++ [b] else s.W j)
    by_cases e : j = i
    · rw [if_pos e, if_pos e]
      refine (Rs.of hr).chg hc4 (fun x hx e2 => ?_)
      have e2 : x = mb := e2
      obtain ⟨cs, hcs⟩ := (Rs.typed (Rs.of hr) hx).2.2
      rw [e2] at hcs
      obtain ⟨es, ck, hm, _⟩ := h.mp.kept hg (fun e => (h.rowg hi e.symm).2.1 rfl)
      rw [hcs] at hm
      cases hm
    · rw [if_neg e, if_neg e]
      refine (h.rows j hj).chg hc (fun x hx e2 => ?_)
      rcases e2 with e2 | e2
      · exact (h.rowg hj hx).2.1 e2
      · exact e (h.sep j i x hj hi hx e2)
  · intro j hj
    show (if j = i then s.W i ++ [b] else s.W j).length ≤ s.c + 1
    by_cases e : j = i
    · rw [if_pos e, List.length_append]
      have : (s.W i).length ≤ s.c := h.wl i hi
      simp
      omega
    · rw [if_neg e]
      have : (s.W j).length ≤ s.c := h.wl j hj
      omega
  · intro j q x hj hq h1 h2
    have h1 : (if j = i then v1 else f j).ownBlock = some x := h1
    have h2 : (if q = i then v1 else f q).ownBlock = some x := h2
    by_cases e : j = i
    · by_cases e2 : q = i
      · omega
      · rw [if_pos e] at h1
        rw [if_neg e2] at h2
        exact (hf q e2 x hq h2 h1).elim
    · rw [if_neg e] at h1
      by_cases e2 : q = i
      · rw [if_pos e2] at h2
        exact (hf j e x hj h1 h2).elim
      · rw [if_neg e2] at h2
        exact h.sep j q x hj hq h1 h2
  · intro j hj e
    have e : (if j = i then v1 else f j).ownBlock = some lb := e
    by_cases e1 : j = i
    · rw [if_pos e1] at e
      rcases hat with e2 | ⟨q, e2, hq⟩
      · rw [e2] at e
        exact h.sepl i hi e
      · rw [e2] at e
        have h5 := (h.la.typed rfl).2.1
        have h6 : q = lb := Option.some.inj e
        rw [h6] at hq
        exact absurd hq (Nat.not_le.2 h5)
    · rw [if_neg e1] at e
      exact h.sepl j hj e
  · intro x hx2
    rcases hx2 with e | e | e | ⟨j, hj, e⟩
    · exact .inl (.inl e)
    · exact .inl (.inr (.inl e))
    · exact .inl (.inr (.inr (.inl e)))
    · have e : (if j = i then v1 else f j).ownBlock = some x := e
      by_cases e1 : j = i
      · rw [if_pos e1] at e
        rcases hat with e2 | ⟨q, e2, hq⟩
        · rw [e2] at e
          exact .inl (.inr (.inr (.inr ⟨i, hi, e⟩)))
        · rw [e2] at e
          cases e
          right
          have := hx.size
          rw [hh] at hq
          omega
      · rw [if_neg e1] at e
        exact .inl (.inr (.inr (.inr ⟨j, hj, e⟩)))
  · refine (hx.trans (Chg.of_below (below_drew1 (Below.refl _ _)) : Chg (Fp g lb mb f s.n) w2 w2.drew) (fun x hx => .inl hx)).trans (hc.mono (fun x e => ?_)) (fun x e => .inl e)
    rcases e with e | e
    · exact .inr (.inr (.inl e))
    · exact .inr (.inr (.inr ⟨i, hi, e⟩))
end
set_option maxHeartbeats 1000000 in
set_option maxRecDepth 100000 in
theorem write_in (g i : Nat) (A : Option Addr) (c : Nat) (b : List Int) (w : World) (base lb cp mb k : Nat) (f : Nat → Value) (D : DataW Value) (s : DS) (h : DkIn w base g s lb cp mb f k D) (hi : i < s.n) (hC : (Kd.int .u8).C w A 512 b) (hne : ∀ ad, A = some ad → ¬ Fp g lb mb f s.n ad.block) (hc : s.c < 1073741824) :
    Calls Tryd.prog 25 #[.pointer (some ⟨g, 0, none⟩), .int .i64 (i : Int), .slice A 512 c] w fun e w' => e = .returned (.int .i64 0) ∧ ∃ F', DkAt w' base g F' (s.put i b) ∧ (∀ b, F' b → Fp g lb mb f s.n b ∨ w.heap.size ≤ b) ∧ Chg (Fp g lb mb f s.n) w w' := by
  obtain ⟨ad, rfl, _⟩ := Kd.at_int hC 0 (by omega) (by omega)
  have hspot := spot_of_C hC (by omega)
  obtain ⟨ab, ao, asp⟩ := ad
  obtain rfl : asp = none := hspot
  have hrange := rangeAt_of_C hC rfl
  have hblen : b.length = 512 := hC.1
  have hag : ab ≠ g := fun e => hne _ rfl (.inl e)
  have hn2 := h.n2
  have hnm := h.nm
  have hg0 : w.cell? ⟨g, 0, none⟩ = some (.slice (some ⟨lb, 0, none⟩) s.n cp) := blk_cell h.hd 0
  have hg3 : w.cell? ⟨g, 3, none⟩ = some (.int .i64 s.wr) := blk_cell h.hd 3
  have hgf : w.frozen? ⟨g, 3, none⟩ = false := blk_frozen h.hd 3
  have Hout := Aside0.mk (show Calls Tryd.prog 51 #[.pointer (some ⟨g, 0, none⟩), .int .i64 (i : Int)] w fun e w' => e = .returned (.bool false) ∧ w' = w from by
    have h_ := outside_calls g (i : Int) s.n (some ⟨lb, 0, none⟩) cp w hg0
    rw [show (!decide (0 ≤ (i : Int) ∧ (i : Int) < (s.n : Int))) = false by simp; omega] at h_
    exact h_)
  have H1 := Aside0.mk (h.acts 3 (wrap64 (s.wr + 1)) ⟨s.n, s.L, s.W, s.c, s.r, wrap64 (s.wr + 1), s.fl⟩ ⟨rfl, rfl, rfl, rfl⟩ rfl)
  have HR := Aside0.mk (show (w.setCell ⟨g, 3, none⟩ (.int .i64 (wrap64 (s.wr + 1)))).rangeAt ab ao (nums .u8 b) from fun j v hv => (World.cell?_setCell_far w ⟨g, 3, none⟩ ⟨ab, ao + j, none⟩ _ (fun e => hag e.symm)).trans (hrange j v hv))
  have HNE := Aside0.mk (hne _ rfl)
  have hsap := sap (some ⟨ab, ao, none⟩) c
  have HI := Aside0.mk hi
  have HC := Aside0.mk hc
  have HBL := Aside0.mk hblen
  have HX := Aside0.mk (Chg.setCell (F := Fp g lb mb f s.n) (Chg.refl _ w) (.inl rfl) 3 (.int .i64 (wrap64 (s.wr + 1))))
  have hi0 : (0 : Int) ≤ (i : Int) := by omega
  clear hrange hblen hi hc h hC hne hag
  go_enter Tryd.func25, Tryd.ntmps25
  go_wp2_with (go_at_call 51; (with_reducible refine Hout.out.mono ?_); rintro e w1 ⟨rfl, hw_⟩; subst hw_)
  have hg1 : ∀ W, DkIn W base g ⟨s.n, s.L, s.W, s.c, s.r, wrap64 (s.wr + 1), s.fl⟩ lb cp mb f k D → W.cell? ⟨g, 1, none⟩ = some (.map (some mb)) := fun W h => blk_cell h.hd 1
  have HG1 := Aside0.mk hg1
  clear hg1 Hout hg0 hg3 hgf
  generalize w1.setCell ⟨g, 3, none⟩ (.int .i64 (wrap64 (s.wr + 1))) = w2 at H1 HR HX ⊢
  have HS := Aside0.mk (fun (W : World) (hb : Chg (fun x => x = mb ∨ (f i).ownBlock = some x) w2 W) => (show W.cell? ⟨g, 1, none⟩ = some (.map (some mb)) ∧ W.rangeAt ab ao (nums .u8 b) from
    ⟨(blk_cell ((hb.block g (blk_lt H1.out.hd) (fun e => by rcases e with e | e; exact H1.out.mbg e.symm; exact (H1.out.rowg HI.out e).1 rfl)).trans H1.out.hd) 1).trans rfl, fun j v hv => by
      have h1 := HR.out j v hv
      have h2 := hb.block ab (World.block_lt_of_cell? w2 _ h1) (fun e => HNE.out (by rcases e with e | e; exact .inr (.inr (.inl e)); exact .inr (.inr (.inr ⟨i, HI.out, e⟩))))
      rw [← h1]
      unfold World.cell?
      rw [h2]⟩))
  have hlb : (nums .u8 b).length = 512 := by rw [nums_length, HBL.out]
  have hnb : ∀ v ∈ nums .u8 b, v.oneCell' = true := fun v hv => by obtain ⟨y, _, rfl⟩ := List.mem_map.1 hv; rfl
  have hu91 := Tryd.underlying108
  have hi91 : (Tryd.prog.info? 108).map (·.size) = some (nums .u8 b).length := by rw [hlb]; kernel_rfl
  generalize hcb : nums .u8 b = cb at *
  have HCB := Aside0.mk hcb
  clear hcb
  have HD := Aside0.mk (H1.out.chg (G := fun _ => False) (Chg.of_below (below_drew1 (Below.refl _ _))) (fun _ _ => id))
  have hlk := HD.out.look i HI.out
  have hlk2 : (Instr.lookup 98 (.map (some mb)) (.int .i64 (i : Int)) false).run Tryd.prog (w2.alloc (.cells cb.toArray 108)).drew = .ok (f i) (w2.alloc (.cells cb.toArray 108)).drew := (HD.out.chg (w' := (w2.alloc (.cells cb.toArray 108)).drew) (G := fun _ => False) (Chg.of_below (below_alloc (w := w2.drew) (Below.refl _ _) (.cells cb.toArray 108))) (fun _ _ => id)).look i HI.out
  have HSD := Aside0.mk (HS.out w2.drew (Chg.of_below (below_drew1 (Below.refl _ _))))
  have HSA := Aside0.mk (HS.out (w2.drew.alloc (.cells cb.toArray 108)) (Chg.of_below (below_alloc (below_drew1 (Below.refl _ _)) _)))
  have HSC := Aside0.mk (show sec.M w2.drew base (fun _ => False) b cb from ⟨HBL.out, HCB.out.symm⟩)
  refine wp_region_noPanic ?_
  refine wp_region_held_drew (S := (fun W => W.cell? ⟨g, 1, none⟩ = some (.map (some mb)) ∧ W.rangeAt ab ao cb)) (by kernel_rfl) HSD.out (fun hHeld => ?_)
  refine wpAnyH_take (i := 0) (oi := { dst := some 24, op := Go.Op.move (Go.Operand.tmp 0), type := 36, pos := "disk.go:73", after := #[], guard := none }) (v := ?_) rfl (by kernel_rfl) (by kernel_rfl) (by kernel_rfl) (fun _ _ _ h => h) (Or.inl ⟨by rfl, ?_⟩) (by assumption) ?_
  rotate_left
  · intro W hSw; (try dsimp only at hSw); go_simp; first | done | with_reducible rfl
  (try simp only [Act.put, List.setIfInBounds_toArray, List.set_cons_zero, List.set_cons_succ])
  refine wpAnyH_take (i := 1) (oi := { dst := some 25, op := Go.Op.nilCheck (Go.Operand.tmp 24), type := 0, pos := "disk.go:73", after := #[{ on := 0, ground := Go.Ground.data }], guard := none }) (v := ?_) rfl (by kernel_rfl) (by kernel_rfl) (by kernel_rfl) (fun _ _ _ h => h) (Or.inl ⟨by rfl, ?_⟩) (by assumption) ?_
  rotate_left
  · intro W hSw; (try dsimp only at hSw); go_simp; first | done | with_reducible rfl
  (try simp only [Act.put, List.setIfInBounds_toArray, List.set_cons_zero, List.set_cons_succ])
  refine wpAnyH_take (i := 2) (oi := { dst := some 26, op := Go.Op.fieldAddr 100 (Go.Operand.tmp 25) 1, type := 0, pos := "disk.go:73", after := #[{ on := 1, ground := Go.Ground.data }], guard := none }) (v := ?_) rfl (by kernel_rfl) (by kernel_rfl) (by kernel_rfl) (fun _ _ _ h => h) (Or.inl ⟨by rfl, ?_⟩) (by assumption) ?_
  rotate_left
  · intro W hSw; (try dsimp only at hSw); go_simp; first | done | with_reducible rfl
  (try simp only [Act.put, List.setIfInBounds_toArray, List.set_cons_zero, List.set_cons_succ])
  refine wpAnyH_take (i := 3) (oi := { dst := some 27, op := Go.Op.load 98 (Go.Operand.tmp 26), type := 98, pos := "disk.go:73", after := #[{ on := 2, ground := Go.Ground.data }], guard := none }) (v := ?_) rfl (by kernel_rfl) (by kernel_rfl) (by kernel_rfl) (fun _ _ _ h => h) (Or.inl ⟨by rfl, ?_⟩) (by assumption) ?_
  rotate_left
  · intro W hSw; (try dsimp only at hSw); go_simp; first | done | with_reducible rfl
  (try simp only [Act.put, List.setIfInBounds_toArray, List.set_cons_zero, List.set_cons_succ])
  refine wpAnyH_take (i := 4) (oi := { dst := some 28, op := Go.Op.move (Go.Operand.tmp 1), type := 3, pos := "disk.go:73", after := #[], guard := none }) (v := ?_) rfl (by kernel_rfl) (by kernel_rfl) (by kernel_rfl) (fun _ _ _ h => h) (Or.inl ⟨by rfl, ?_⟩) (by assumption) ?_
  rotate_left
  · intro W hSw; (try dsimp only at hSw); go_simp; first | done | with_reducible rfl
  (try simp only [Act.put, List.setIfInBounds_toArray, List.set_cons_zero, List.set_cons_succ])
  refine wpAnyH_take (i := 5) (oi := { dst := some 29, op := Go.Op.move (Go.Operand.tmp 0), type := 36, pos := "disk.go:73", after := #[], guard := none }) (v := ?_) rfl (by kernel_rfl) (by kernel_rfl) (by kernel_rfl) (fun _ _ _ h => h) (Or.inl ⟨by rfl, ?_⟩) (by assumption) ?_
  rotate_left
  · intro W hSw; (try dsimp only at hSw); go_simp; first | done | with_reducible rfl
  (try simp only [Act.put, List.setIfInBounds_toArray, List.set_cons_zero, List.set_cons_succ])
  refine wpAnyH_take (i := 6) (oi := { dst := some 30, op := Go.Op.nilCheck (Go.Operand.tmp 29), type := 0, pos := "disk.go:73", after := #[{ on := 5, ground := Go.Ground.data }], guard := none }) (v := ?_) rfl (by kernel_rfl) (by kernel_rfl) (by kernel_rfl) (fun _ _ _ h => h) (Or.inl ⟨by rfl, ?_⟩) (by assumption) ?_
  rotate_left
  · intro W hSw; (try dsimp only at hSw); go_simp; first | done | with_reducible rfl
  (try simp only [Act.put, List.setIfInBounds_toArray, List.set_cons_zero, List.set_cons_succ])
  refine wpAnyH_take (i := 7) (oi := { dst := some 31, op := Go.Op.fieldAddr 100 (Go.Operand.tmp 30) 1, type := 0, pos := "disk.go:73", after := #[{ on := 6, ground := Go.Ground.data }], guard := none }) (v := ?_) rfl (by kernel_rfl) (by kernel_rfl) (by kernel_rfl) (fun _ _ _ h => h) (Or.inl ⟨by rfl, ?_⟩) (by assumption) ?_
  rotate_left
  · intro W hSw; (try dsimp only at hSw); go_simp; first | done | with_reducible rfl
  (try simp only [Act.put, List.setIfInBounds_toArray, List.set_cons_zero, List.set_cons_succ])
  refine wpAnyH_take (i := 8) (oi := { dst := some 32, op := Go.Op.load 98 (Go.Operand.tmp 31), type := 98, pos := "disk.go:73", after := #[{ on := 7, ground := Go.Ground.data }], guard := none }) (v := ?_) rfl (by kernel_rfl) (by kernel_rfl) (by kernel_rfl) (fun _ _ _ h => h) (Or.inl ⟨by rfl, ?_⟩) (by assumption) ?_
  rotate_left
  · intro W hSw; (try dsimp only at hSw); go_simp; first | done | with_reducible rfl
  (try simp only [Act.put, List.setIfInBounds_toArray, List.set_cons_zero, List.set_cons_succ])
  refine wpAnyH_take (i := 9) (oi := { dst := some 33, op := Go.Op.move (Go.Operand.tmp 1), type := 3, pos := "disk.go:73", after := #[], guard := none }) (v := ?_) rfl (by kernel_rfl) (by kernel_rfl) (by kernel_rfl) (fun _ _ _ h => h) (Or.inl ⟨by rfl, ?_⟩) (by assumption) ?_
  rotate_left
  · intro W hSw; (try dsimp only at hSw); go_simp; first | done | with_reducible rfl
  (try simp only [Act.put, List.setIfInBounds_toArray, List.set_cons_zero, List.set_cons_succ])
  refine wpAnyH_take (i := 11) (oi := { dst := some 35, op := Go.Op.move (Go.Operand.tmp 2), type := 28, pos := "disk.go:73", after := #[], guard := none }) (v := ?_) rfl (by kernel_rfl) (by kernel_rfl) (by kernel_rfl) (fun _ _ _ h => h) (Or.inl ⟨by rfl, ?_⟩) (by assumption) ?_
  rotate_left
  · intro W hSw; (try dsimp only at hSw); go_simp; first | done | with_reducible rfl
  (try simp only [Act.put, List.setIfInBounds_toArray, List.set_cons_zero, List.set_cons_succ])
  refine wpAnyH_take (i := 12) (oi := { dst := some 36, op := Go.Op.sliceToArrayPointer 108 (Go.Operand.tmp 35), type := 0, pos := "disk.go:73", after := #[{ on := 11, ground := Go.Ground.data }], guard := none }) (v := ?_) rfl (by kernel_rfl) (by kernel_rfl) (by kernel_rfl) (fun _ _ _ h => h) (Or.inl ⟨by rfl, ?_⟩) (by assumption) ?_
  rotate_left
  · intro W hSw; (try dsimp only at hSw); go_simp; first | done | with_reducible rfl
  (try simp only [Act.put, List.setIfInBounds_toArray, List.set_cons_zero, List.set_cons_succ])
  refine wpAnyH_take (i := 13) (oi := { dst := some 37, op := Go.Op.load 108 (Go.Operand.tmp 36), type := 108, pos := "disk.go:73", after := #[{ on := 12, ground := Go.Ground.data }], guard := none }) (v := .agg cb.toArray) rfl (by kernel_rfl) (by kernel_rfl) (by kernel_rfl) (fun _ _ _ h => h) (yieldsIf_load_mid (by rfl) 108 (.tmp 36) rfl ab ao rfl cb _ (fun W hSw => hSw.2) hu91 rfl hi91) (by assumption) ?_
  (try simp only [Act.put, List.setIfInBounds_toArray, List.set_cons_zero, List.set_cons_succ])
  refine wpAnyH_ready (rs := [10, 14]) (by kernel_rfl) (by simp) ?_
  refine AllReadyH.cons (o := { dst := some 34, op := Go.Op.lookup 98 (Go.Operand.tmp 32) (Go.Operand.tmp 33) false, type := 97, pos := "disk.go:73", after := #[{ on := 8, ground := Go.Ground.data }, { on := 9, ground := Go.Ground.data }], guard := none }) rfl (fun K hK => ?_) ?_
  · go_simp
    refine hK.out _ _ HSD.out (fun hHeld => ?_)
    clear hK K
    (try simp only [Act.put, List.setIfInBounds_toArray, List.set_cons_zero, List.set_cons_succ])
    refine wpAnyH_ready (rs := [14]) (by kernel_rfl) (by simp) ?_
    refine AllReadyH.cons (o := { dst := some 38, op := Go.Op.buildSlice 97 1 #[(0, Go.Operand.tmp 37)], type := 97, pos := "disk.go:73", after := #[{ on := 13, ground := Go.Ground.data }], guard := none }) rfl (fun K hK => ?_) AllReadyH.nil
    go_simp
    refine hK.out _ (w2.alloc (.cells cb.toArray 108)).drew HSA.out (fun hHeld => ?_)
    clear hK K
    (try simp only [Act.put, List.setIfInBounds_toArray, List.set_cons_zero, List.set_cons_succ])
    refine wpAnyH_ready (rs := [15]) (by kernel_rfl) (by simp) ?_
    refine AllReadyH.cons (o := { dst := some 39, op := Go.Op.call { callee := Go.Callee.builtin Go.Builtin.append, args := #[Go.Operand.tmp 34, Go.Operand.tmp 38], argTypes := #[97, 97] }, type := 97, pos := "disk.go:73", after := #[{ on := 10, ground := Go.Ground.data }, { on := 14, ground := Go.Ground.data }], guard := none }) rfl (fun K hK => ?_) AllReadyH.nil
    (refine Kd.R_append_step sec (w0 := w2.drew) (W := w2.drew) base (by rfl) (.tmp 34) (.tmp 38) 97 108 (.agg (Array.replicate 512 (.int .u8 0))) 512 (by rfl) Tryd.underlying97 info91 (by simp [sec, Value.cells]) (by decide) (by decide) (f i) (s.W i) b cb (fun x => (f i).ownBlock = some x ∨ w2.drew.heap.size ≤ x) (fun _ => False) (by rfl) (by rfl) HSC.out (fun _ h => h.elim) (fun _ h => .inr h) (Kd.R_mono (HD.out.rows i HI.out) (fun _ h => .inl h)) (Below.refl _ _) (by have := HD.out.gb; have := blk_lt HD.out.hd; omega) (by have h3 : (s.W i).length ≤ s.c := HD.out.wl i HI.out; have := HC.out; omega) ?_)
    intro v1 w3 ho hb hg hat
    obtain ⟨w4, hrun, hown, hgr⟩ := (HD.out.mp.kept hg (fun e => (HD.out.rowg HI.out e.symm).2.1 rfl)).update keyed Tryd.underlying98 (by have := HD.out.kc; have h2 : k ≤ s.c := this; have := HC.out; unfold maxLen; omega) (key_int (i : Int) (by have := HI.out; omega)) (show asIs v1 = some (.held v1, []) from rfl)
    have HO := Aside0.mk (And.intro ho (And.intro hg (And.intro hat (And.intro hown hgr))))
    have HSB := Aside0.mk (HS.out w3 ((Chg.of_below (below_drew1 (Below.refl _ _))).trans (Chg.of_grown hg (fun k hk => .inr hk)) (fun _ h => .inl h)))
    have HSE := Aside0.mk (HS.out w4 (((Chg.of_below (below_drew1 (Below.refl _ _))).trans (Chg.of_grown hg (fun k hk => .inr hk)) (fun _ h => .inl h)).trans (Chg.of_grown hgr (fun k hk => .inl (Option.some.inj hk).symm)) (fun _ h => .inl h)))
    clear ho hb hg hat hown hgr
    refine hK.out _ _ HSB.out (fun hHeld => ?_)
    clear hK K
    (try simp only [Act.put, List.setIfInBounds_toArray, List.set_cons_zero, List.set_cons_succ])
    refine wpAnyH_ready (rs := [16]) (by kernel_rfl) (by simp) ?_
    refine AllReadyH.cons (o := { dst := none, op := Go.Op.mapUpdate 98 (Go.Operand.tmp 27) (Go.Operand.tmp 28) (Go.Operand.tmp 39), type := 0, pos := "disk.go:73", after := #[{ on := 3, ground := Go.Ground.data }, { on := 4, ground := Go.Ground.data }, { on := 15, ground := Go.Ground.data }, { on := 15, ground := Go.Ground.chain }, { on := 0, ground := Go.Ground.phase }, { on := 1, ground := Go.Ground.phase }, { on := 2, ground := Go.Ground.phase }, { on := 3, ground := Go.Ground.phase }, { on := 4, ground := Go.Ground.phase }, { on := 5, ground := Go.Ground.phase }, { on := 6, ground := Go.Ground.phase }, { on := 7, ground := Go.Ground.phase }, { on := 8, ground := Go.Ground.phase }, { on := 9, ground := Go.Ground.phase }, { on := 10, ground := Go.Ground.phase }, { on := 11, ground := Go.Ground.phase }, { on := 12, ground := Go.Ground.phase }, { on := 13, ground := Go.Ground.phase }, { on := 14, ground := Go.Ground.phase }, { on := 15, ground := Go.Ground.phase }], guard := none }) rfl (fun K hK => ?_) AllReadyH.nil
    go_simp
    refine hK.out _ _ HSE.out (fun hHeld => ?_)
    clear hK K
    (try simp only [Act.put, List.setIfInBounds_toArray, List.set_cons_zero, List.set_cons_succ])
    refine wpAnyH_done (by kernel_rfl) ?_ _
    refine NoPanic.normal ?_
    go_wp2
    go_ret
    exact ⟨rfl, write_end HI.out HX.out HD.out HO.out⟩
  refine AllReadyH.cons (o := { dst := some 38, op := Go.Op.buildSlice 97 1 #[(0, Go.Operand.tmp 37)], type := 97, pos := "disk.go:73", after := #[{ on := 13, ground := Go.Ground.data }], guard := none }) rfl (fun K hK => ?_) AllReadyH.nil
  go_simp
  refine hK.out _ (w2.alloc (.cells cb.toArray 108)).drew HSA.out (fun hHeld => ?_)
  clear hK K
  (try simp only [Act.put, List.setIfInBounds_toArray, List.set_cons_zero, List.set_cons_succ])
  refine wpAnyH_ready (rs := [10]) (by kernel_rfl) (by simp) ?_
  refine AllReadyH.cons (o := { dst := some 34, op := Go.Op.lookup 98 (Go.Operand.tmp 32) (Go.Operand.tmp 33) false, type := 97, pos := "disk.go:73", after := #[{ on := 8, ground := Go.Ground.data }, { on := 9, ground := Go.Ground.data }], guard := none }) rfl (fun K hK => ?_) AllReadyH.nil
  go_simp
  refine hK.out _ (w2.alloc (.cells cb.toArray 108)).drew HSA.out (fun hHeld => ?_)
  clear hK K
  (try simp only [Act.put, List.setIfInBounds_toArray, List.set_cons_zero, List.set_cons_succ])
  refine wpAnyH_ready (rs := [15]) (by kernel_rfl) (by simp) ?_
  refine AllReadyH.cons (o := { dst := some 39, op := Go.Op.call { callee := Go.Callee.builtin Go.Builtin.append, args := #[Go.Operand.tmp 34, Go.Operand.tmp 38], argTypes := #[97, 97] }, type := 97, pos := "disk.go:73", after := #[{ on := 10, ground := Go.Ground.data }, { on := 14, ground := Go.Ground.data }], guard := none }) rfl (fun K hK => ?_) AllReadyH.nil
  (refine Kd.R_append_step sec (w0 := w2.drew) (W := w2.drew) base (by rfl) (.tmp 34) (.tmp 38) 97 108 (.agg (Array.replicate 512 (.int .u8 0))) 512 (by rfl) Tryd.underlying97 info91 (by simp [sec, Value.cells]) (by decide) (by decide) (f i) (s.W i) b cb (fun x => (f i).ownBlock = some x ∨ w2.drew.heap.size ≤ x) (fun _ => False) (by rfl) (by rfl) HSC.out (fun _ h => h.elim) (fun _ h => .inr h) (Kd.R_mono (HD.out.rows i HI.out) (fun _ h => .inl h)) (Below.refl _ _) (by have := HD.out.gb; have := blk_lt HD.out.hd; omega) (by have h3 : (s.W i).length ≤ s.c := HD.out.wl i HI.out; have := HC.out; omega) ?_)
  intro v1 w3 ho hb hg hat
  obtain ⟨w4, hrun, hown, hgr⟩ := (HD.out.mp.kept hg (fun e => (HD.out.rowg HI.out e.symm).2.1 rfl)).update keyed Tryd.underlying98 (by have := HD.out.kc; have h2 : k ≤ s.c := this; have := HC.out; unfold maxLen; omega) (key_int (i : Int) (by have := HI.out; omega)) (show asIs v1 = some (.held v1, []) from rfl)
  have HO := Aside0.mk (And.intro ho (And.intro hg (And.intro hat (And.intro hown hgr))))
  have HSB := Aside0.mk (HS.out w3 ((Chg.of_below (below_drew1 (Below.refl _ _))).trans (Chg.of_grown hg (fun k hk => .inr hk)) (fun _ h => .inl h)))
  have HSE := Aside0.mk (HS.out w4 (((Chg.of_below (below_drew1 (Below.refl _ _))).trans (Chg.of_grown hg (fun k hk => .inr hk)) (fun _ h => .inl h)).trans (Chg.of_grown hgr (fun k hk => .inl (Option.some.inj hk).symm)) (fun _ h => .inl h)))
  clear ho hb hg hat hown hgr
  refine hK.out _ _ HSB.out (fun hHeld => ?_)
  clear hK K
  (try simp only [Act.put, List.setIfInBounds_toArray, List.set_cons_zero, List.set_cons_succ])
  refine wpAnyH_ready (rs := [16]) (by kernel_rfl) (by simp) ?_
  refine AllReadyH.cons (o := { dst := none, op := Go.Op.mapUpdate 98 (Go.Operand.tmp 27) (Go.Operand.tmp 28) (Go.Operand.tmp 39), type := 0, pos := "disk.go:73", after := #[{ on := 3, ground := Go.Ground.data }, { on := 4, ground := Go.Ground.data }, { on := 15, ground := Go.Ground.data }, { on := 15, ground := Go.Ground.chain }, { on := 0, ground := Go.Ground.phase }, { on := 1, ground := Go.Ground.phase }, { on := 2, ground := Go.Ground.phase }, { on := 3, ground := Go.Ground.phase }, { on := 4, ground := Go.Ground.phase }, { on := 5, ground := Go.Ground.phase }, { on := 6, ground := Go.Ground.phase }, { on := 7, ground := Go.Ground.phase }, { on := 8, ground := Go.Ground.phase }, { on := 9, ground := Go.Ground.phase }, { on := 10, ground := Go.Ground.phase }, { on := 11, ground := Go.Ground.phase }, { on := 12, ground := Go.Ground.phase }, { on := 13, ground := Go.Ground.phase }, { on := 14, ground := Go.Ground.phase }, { on := 15, ground := Go.Ground.phase }], guard := none }) rfl (fun K hK => ?_) AllReadyH.nil
  go_simp
  refine hK.out _ _ HSE.out (fun hHeld => ?_)
  clear hK K
  (try simp only [Act.put, List.setIfInBounds_toArray, List.set_cons_zero, List.set_cons_succ])
  refine wpAnyH_done (by kernel_rfl) ?_ _
  refine NoPanic.normal ?_
  go_wp2
  go_ret
  exact ⟨rfl, write_end HI.out HX.out HD.out HO.out⟩
end Go.Proofs.YtaflofcnjakaaaaDoor.M

namespace Go.Proofs.YtaflofcnjakaaaaDoor.M
open Go.RowKit Go.Maps Go.Proofs.YtaflofcnjakaaaaDoorW.PrintWords Go.Proofs.YtaflofcnjakaaaaDoorW.PrintLast Go.Proofs.YtaflofcnjakaaaaDoorW.PrintMore
set_option linter.unusedVariables false
set_option linter.unusedSimpArgs false
def zA : Array Value := (nums .u8 zeros).toArray
theorem zA_size : zA.size = 512 := by unfold zA; rw [List.size_toArray, nums_length, zeros_len]
theorem size91 : (Tryd.prog.info? 108).map (·.size) = some 512 := by kernel_rfl
theorem zero91 (W : World) : (zeroValue 108).run Tryd.prog W = .ok (.agg zA) W := by
  obtain ⟨i, hi, hz, hsz, hby⟩ := info_parts info91
  have e : Value.agg zA = Value.agg (Array.replicate 512 (.int .u8 0)) := by unfold zA; rw [zeros_nums, Array.toArray_toList]
  rw [e]
  generalize Value.agg (Array.replicate 512 (.int .u8 0)) = zv at hz
  simp [zeroValue, typeInfo, Sem.run_bind, hi, hz]
theorem run_alloc91 (W : World) : (Instr.alloc 108 true (.tuple #[])).run Tryd.prog W = .ok (.pointer (some ⟨W.heap.size, 0, none⟩)) (W.alloc (.cells zA 108)) := by
  unfold Instr.alloc
  rw [Sem.run_bind, zero91]
  simp only [Result.andThen_ok]
  simp [newVar, newRow, Sem.run_bind, Value.cells]
theorem run_put91 (W : World) (c : Array Value) (c' : List Value) (hc : c.size = 512) (hc' : c'.length = 512) (h1 : ∀ v ∈ c', v.oneCell' = true) :
    (Instr.storeAt 108 (.pointer (some ⟨W.heap.size, 0, none⟩)) (.agg c'.toArray)).run Tryd.prog (W.alloc (.cells c 108)) = .ok () (W.alloc (.cells c'.toArray 108)) := by
  obtain ⟨i, hi, hz, hsz, hby⟩ := info_parts info91
  have h := run_storeCells_new (P := Tryd.prog) W 108 c c'.toArray (by rw [List.size_toArray, hc']; exact size91) (by simp [hc', hc]) (all_oneCell_toArray h1)
  simp only [List.toList_toArray] at h
  simp [Instr.storeAt, Instr.sureAddr, storeVar, sizeOf, typeInfo, hi, hsz, Value.cells, hc', h]
theorem slice91 (n : Nat) (W : World) : (Instr.sliceAt 108 (.pointer (some ⟨n, 0, none⟩)) none none none).run Tryd.prog W = .ok (.slice (some ⟨n, 0, none⟩) 512 512) W := by
  have ha : Tryd.prog.arrayLen 108 = 512 := by kernel_rfl
  have he : Tryd.prog.elem 108 = 5 := by kernel_rfl
  have hs : (sizeOf 5).run Tryd.prog W = .ok 1 W := by
    obtain ⟨i, hi, _, hsz, _⟩ := info_parts info5
    simp [sizeOf, typeInfo, hi, hsz]
  rw [run_sliceAt_array_all W 108 ⟨n, 0, none⟩ (by kernel_rfl), he, hs, ha]
  rfl
def DS.reads (s : DS) : DS := ⟨s.n, s.L, s.W, s.c, wrap64 (s.r + 1), s.wr, s.fl⟩
def DS.cur (s : DS) (i : Nat) : List Int := match (s.W i).getLast? with | some b => b | none => s.L.getD i []
theorem sec_at {w : World} {base b n c : Nat} {l : List (List Int)} (h : Rs w base (.slice (some ⟨b, 0, none⟩) n c) l) (i : Nat) (hi : i < n) :
    w.rangeAt b (i * 512) (nums .u8 (l.getD i [])) ∧ (l.getD i []).length = 512 ∧ w.there b (i * 512) 512 := by
  obtain ⟨cs, hl, hM, hc, hf⟩ := Kd.R_elem h [] (i : Int) (by omega) (by omega)
  rw [Int.toNat_natCast] at hM hc hf
  obtain ⟨h1, h2⟩ := hM
  refine ⟨fun j v hv => hc j v (by rw [h2]; exact hv), h1, fun j hj => ⟨?_, hf j⟩⟩
  have hj' : j < cs.length := by rw [hl]; exact hj
  have := hc j _ (List.getElem?_eq_getElem hj')
  show (w.cell? ⟨b, i * 512 + j, none⟩).isSome = true
  rw [show i * 512 + j = i * sec.sz + j from rfl, this]
  rfl
theorem nums_one (l : List Int) : ∀ v ∈ nums .u8 l, v.oneCell' = true := fun v hv => by obtain ⟨y, _, rfl⟩ := List.mem_map.1 hv; rfl
section
variable {ops : Array Oper} {rest : List Oper} {o : Oper} {a : Act} {Q : Exit → Act → World → Prop} {W : World}
theorem ld91 (x : Operand) (ho : o.op = .load 108 x) (hg : o.guard = none) (b off : Nat) (hx : a.eval x = .pointer (some ⟨b, off, none⟩)) (cs : List Value) (hl : cs.length = 512) (hr : W.rangeAt b off cs)
    (h : wpList Tryd.prog ops Q rest (a.put o.dst (.agg cs.toArray)) W) : wpList Tryd.prog ops Q (o :: rest) a W :=
  wpList_load_mid hg _ x ho b off hx cs _ hr Tryd.underlying108 rfl (by rw [hl]; exact size91) h
theorem al91 (ho : o.op = .alloc 108) (hg : o.guard = none) (n : Nat) (hn : W.heap.size = n)
    (h : wpList Tryd.prog ops Q rest (a.put o.dst (.pointer (some ⟨n, 0, none⟩))) (W.alloc (.cells zA 108))) : wpList Tryd.prog ops Q (o :: rest) a W := by
  subst hn
  refine Great.wpList_runTo hg _ rfl _ _ ?_ h
  unfold execOp
  rw [ho]
  simp only [Sem.run_bind, run_alloc91, Result.andThen_ok]
  rfl
theorem st91 (x y : Operand) (ho : o.op = .store 108 x y) (hg : o.guard = none) (hd : o.dst = none) (n : Nat) (hn : W.heap.size = n) (c : Array Value) (c' : List Value) (hc : c.size = 512) (hc' : c'.length = 512) (h1 : ∀ v ∈ c', v.oneCell' = true)
    (hx : a.eval x = .pointer (some ⟨n, 0, none⟩)) (hy : a.eval y = .agg c'.toArray)
    (h : wpList Tryd.prog ops Q rest a (W.alloc (.cells c'.toArray 108))) : wpList Tryd.prog ops Q (o :: rest) a (W.alloc (.cells c 108)) := by
  subst hn
  refine wpList_plain hg fun K hK => ?_
  unfold Oper.wp execOp
  rw [ho]
  simp only [hx, hy, Sem.run_bind, run_put91 W c c' hc hc' h1, Result.andThen_ok]
  show K (a.put o.dst undef) _
  rw [hd]
  exact hK _ _ h
end
theorem C_blk {W : World} {n ty : Nat} {l : List Int} (h : W.heap[n]? = some (.cells (nums .u8 l).toArray ty (0, 0))) (hl : l.length ≤ 9223372036854775807) : (Kd.int .u8).C W (some ⟨n, 0, none⟩) l.length l := by
  refine ⟨rfl, hl, fun _ => ⟨_, rfl, fun j p hp => ⟨[.int .u8 p], rfl, rfl, fun i u hu => ?_⟩⟩⟩
  match i, hu with
  | 0, hu =>
    have hu' : Value.int .u8 p = u := by simpa using hu
    subst hu'
    show W.cell? ((⟨n, 0, none⟩ : Addr).add (j * 1 + 0)) = _
    rw [Nat.mul_one, Nat.add_zero, Addr.add_mid, Nat.zero_add, blk_cell h]
    simp [nums, hp]
  | i + 1, hu => simp at hu
end Go.Proofs.YtaflofcnjakaaaaDoor.M

namespace Go.Proofs.YtaflofcnjakaaaaDoor.M
open Go.RowKit Go.Maps Go.Proofs.YtaflofcnjakaaaaDoorW.PrintWords Go.Proofs.YtaflofcnjakaaaaDoorW.PrintLast Go.Proofs.YtaflofcnjakaaaaDoorW.PrintMore
set_option linter.unusedVariables false
set_option linter.unusedSimpArgs false
section
variable {w : World} {base g lb cp mb k : Nat} {s : DS} {f : Nat → Value} {D : DataW Value}
theorem cur_nil {i : Nat} (h : s.W i = []) : s.cur i = s.L.getD i [] := by unfold DS.cur; rw [h]; rfl
theorem cur_last {i : Nat} (h : s.W i ≠ []) : s.cur i = (s.W i).getD ((s.W i).length - 1) [] := by
  unfold DS.cur
  rw [List.getLast?_eq_getElem?, List.getD_eq_getElem?_getD]
  have : (s.W i).length - 1 < (s.W i).length := by
    have := List.length_pos_iff.2 h
    omega
  rw [List.getElem?_eq_getElem this, List.getD_eq_getElem?_getD, List.getElem?_eq_getElem this]
  rfl
end
theorem read_end {w w2 W w5 : World} {base g lb cp mb k : Nat} {s : DS} {f : Nat → Value} {D : DataW Value} {v : Value} {o : Obj} {l l' : List Int} (hx : Chg (fun x => x = g) w w2) (h : DkIn W base g s lb cp mb f k D) (hl : l' = l) (hW : W = w2.alloc o)
    (hr : Kd.R (Kd.int .u8) 5 w5 W.heap.size (fun _ => True) v l ∧ Below W.heap.size W w5) :
    ∃ v', Ending.returned (.tuple #[v, .int .i64 0]) = Ending.returned (.tuple #[v', .int .i64 0]) ∧ Kd.R (Kd.int .u8) 5 w5 w.heap.size (fun _ => True) v' l' ∧ DkIn w5 base g s lb cp mb f k D ∧ Chg (fun x => x = g) w w5 := by
  subst hl hW
  have hs : w2.heap.size ≤ (w2.alloc o).heap.size := by simp
  exact ⟨v, rfl, Kd.R_lower hr.1 (Nat.le_trans hx.size hs), h.chg (G := fun _ => False) (Chg.of_below hr.2) (fun _ _ => id), hx.trans (Chg.of_below (F := fun _ => False) (below_step (below_alloc (Below.refl _ _) o) hr.2)) (fun _ h => h.elim)⟩
set_option maxHeartbeats 1000000 in
set_option maxRecDepth 100000 in
theorem read_in (g i : Nat) (w : World) (base lb cp mb k : Nat) (f : Nat → Value) (D : DataW Value) (s : DS) (h : DkIn w base g s lb cp mb f k D) (hi : i < s.n) :
    Calls Tryd.prog 52 #[.pointer (some ⟨g, 0, none⟩), .int .i64 (i : Int)] w fun e w' => ∃ v, e = .returned (.tuple #[v, .int .i64 0]) ∧ Kd.R (Kd.int .u8) 5 w' w.heap.size (fun _ => True) v (s.cur i) ∧ DkIn w' base g s.reads lb cp mb f k D ∧ Chg (fun x => x = g) w w' := by
  have hn2 := h.n2
  have hnm := h.nm
  have hg0 : w.cell? ⟨g, 0, none⟩ = some (.slice (some ⟨lb, 0, none⟩) s.n cp) := blk_cell h.hd 0
  have hg2 : w.cell? ⟨g, 2, none⟩ = some (.int .i64 s.r) := blk_cell h.hd 2
  have hgf : w.frozen? ⟨g, 2, none⟩ = false := blk_frozen h.hd 2
  have Hout := Aside0.mk (show Calls Tryd.prog 51 #[.pointer (some ⟨g, 0, none⟩), .int .i64 (i : Int)] w fun e w' => e = .returned (.bool false) ∧ w' = w from by
    have h_ := outside_calls g (i : Int) s.n (some ⟨lb, 0, none⟩) cp w hg0
    rw [show (!decide (0 ≤ (i : Int) ∧ (i : Int) < (s.n : Int))) = false by simp; omega] at h_
    exact h_)
  have H1 := Aside0.mk (h.acts 2 (wrap64 (s.r + 1)) s.reads ⟨rfl, rfl, rfl, rfl⟩ rfl)
  have HX := Aside0.mk (Chg.setCell (F := fun x => x = g) (Chg.refl _ w) rfl 2 (.int .i64 (wrap64 (s.r + 1))))
  have HI := Aside0.mk hi
  have hi0 : (0 : Int) ≤ (i : Int) := by omega
  have hi1 : (i : Int) < (s.n : Int) := by omega
  clear h hi
  go_enter Tryd.func52, Tryd.ntmps52
  go_upto_region 4 with (go_at_call 51; (with_reducible refine Hout.out.mono ?_); rintro e w1 ⟨rfl, hw_⟩; subst hw_)
  clear hg0 hg2 hgf Hout
  generalize w1.setCell ⟨g, 2, none⟩ (.int .i64 (wrap64 (s.r + 1))) = w2 at H1 HX ⊢
  have hg0 : w2.cell? ⟨g, 0, none⟩ = some (.slice (some ⟨lb, 0, none⟩) s.n cp) := blk_cell H1.out.hd 0
  have hg1 : w2.cell? ⟨g, 1, none⟩ = some (.map (some mb)) := blk_cell H1.out.hd 1
  have HL := Aside0.mk (sec_at H1.out.la i HI.out)
  obtain ⟨bL, hbL⟩ : ∃ x, x = s.L.getD i [] := ⟨_, rfl⟩
  obtain ⟨hLr, hLl, _⟩ : w2.rangeAt lb (i * 512) (nums .u8 (s.L.getD i [])) ∧ (s.L.getD i []).length = 512 ∧ w2.there lb (i * 512) 512 := HL.out
  rw [← hbL] at hLr hLl
  have HbL := Aside0.mk hbL
  have HN := Aside0.mk nums_one
  go_upto_region 5 with (first
    | ((with_reducible refine gate_ (.load 108 (.tmp 25)) rfl ?_); refine ld91 (.tmp 25) rfl rfl lb (i * 512) rfl (nums .u8 bL) (by rw [nums_length, hLl]) hLr ?_)
    | ((with_reducible refine gate_ (.alloc 108) rfl ?_); refine al91 rfl rfl w2.heap.size rfl ?_)
    | ((with_reducible refine gate_ (.store 108 (.tmp 6) (.tmp 26)) rfl ?_); refine st91 (.tmp 6) (.tmp 26) rfl rfl rfl w2.heap.size rfl zA (nums .u8 bL) zA_size (by rw [nums_length, hLl]) (HN.out _) rfl rfl ?_))
  have hgl := blk_lt H1.out.hd
  obtain ⟨cb, hcb⟩ : ∃ x, x = nums .u8 bL := ⟨_, rfl⟩
  rw [← hcb]
  have HC := Aside0.mk hcb
  have hcbl : cb.length = 512 := by rw [hcb, nums_length, hLl]
  have H2 := Aside0.mk (H1.out.chg (w' := w2.alloc (.cells cb.toArray 108)) (G := fun _ => False) (Chg.of_below (below_alloc (Below.refl _ _) _)) (fun _ _ => id))
  have hg1' : (w2.alloc (.cells cb.toArray 108)).cell? ⟨g, 1, none⟩ = some (.map (some mb)) := blk_cell H2.out.hd 1
  obtain ⟨A7, c7, e7⟩ := Kd.R_slice (H2.out.rows i HI.out)
  have hlk : (Instr.lookup 98 (.map (some mb)) (.int .i64 (i : Int)) false).run Tryd.prog (w2.alloc (.cells cb.toArray 108)) = .ok (.slice A7 (s.W i).length c7) (w2.alloc (.cells cb.toArray 108)) := e7 ▸ H2.out.look i HI.out
  have HE := Aside0.mk e7
  clear hcb hLr hg0 hg1 e7
  have hsl := fun W => slice91 w2.heap.size W
  by_cases hW : s.W i = []
  · have hWl : (s.W i).length = 0 := by rw [hW]; rfl
    have HW := Aside0.mk hW
    rw [hWl] at hlk
    clear hW hWl
    have HCL := Aside0.mk (show Calls Tryd.prog 49 #[.slice (some ⟨w2.heap.size, 0, none⟩) 512 512] (w2.alloc (.cells cb.toArray 108)) fun e w' => ∃ v, e = .returned v ∧ Kd.R (Kd.int .u8) 5 w' (w2.alloc (.cells cb.toArray 108)).heap.size (fun _ => True) v bL ∧ Below (w2.alloc (.cells cb.toArray 108)).heap.size (w2.alloc (.cells cb.toArray 108)) w' from
      clone_calls ⟨w2.heap.size, 0, none⟩ 512 512 bL _ (hLl ▸ C_blk (by rw [HC.out]; exact blk_new w2 _) (by omega)) (by omega))
    go_wp2_with (go_at_call 49; (with_reducible refine HCL.out.mono ?_); rintro e w5 ⟨v, rfl, hr, hb⟩; have HR := Aside0.mk (And.intro hr hb); clear hr hb)
    go_ret2
    exact read_end HX.out H2.out (by rw [cur_nil HW.out, ← HbL.out]) rfl HR.out
  · have HW := Aside0.mk hW
    have hWl : 0 < (s.W i).length := List.length_pos_iff.2 hW
    have hWc : (s.W i).length ≤ 9223372036854775807 := (Kd.R_reads' (HE.out ▸ H2.out.rows i HI.out)).2.2.2.1
    obtain ⟨b7, c7', e8, _⟩ := Kd.R_form (H2.out.rows i HI.out) hWl
    obtain ⟨rfl, rfl⟩ : A7 = some ⟨b7, 0, none⟩ ∧ c7 = c7' := by rw [HE.out] at e8; cases e8; exact ⟨rfl, rfl⟩
    have hS7 := sec_at (HE.out ▸ H2.out.rows i HI.out : Rs _ base (.slice (some ⟨b7, 0, none⟩) (s.W i).length c7) (s.W i)) ((s.W i).length - 1) (by omega)
    rw [← cur_last hW] at hS7
    obtain ⟨hSr, hSl, _⟩ := hS7
    obtain ⟨bC, hbC⟩ : ∃ x, x = s.cur i := ⟨_, rfl⟩
    have HbC := Aside0.mk hbC
    rw [← hbC] at hSr hSl
    have HSr := Aside0.mk hSr
    generalize (s.W i).length = ln at *
    have HCL := Aside0.mk (show Calls Tryd.prog 49 #[.slice (some ⟨w2.heap.size, 0, none⟩) 512 512] (w2.alloc (.cells (nums .u8 bC).toArray 108)) fun e w' => ∃ v, e = .returned v ∧ Kd.R (Kd.int .u8) 5 w' (w2.alloc (.cells (nums .u8 bC).toArray 108)).heap.size (fun _ => True) v bC ∧ Below (w2.alloc (.cells (nums .u8 bC).toArray 108)).heap.size (w2.alloc (.cells (nums .u8 bC).toArray 108)) w' from
      clone_calls ⟨w2.heap.size, 0, none⟩ 512 512 bC _ (hSl ▸ C_blk (blk_new w2 _) (by omega)) (by omega))
    have H3 := Aside0.mk (H1.out.chg (w' := w2.alloc (.cells (nums .u8 bC).toArray 108)) (G := fun _ => False) (Chg.of_below (below_alloc (Below.refl _ _) _)) (fun _ _ => id))
    have hl0 : (0 : Int) < (ln : Int) := by omega
    have hl1 : (0 : Int) ≤ (ln : Int) - 1 := by omega
    have hl2 : (ln : Int) - 1 < (ln : Int) := by omega
    clear hW e8 hbC hSr
    go_wp2_with (first
      | ((with_reducible refine gate_ (.load 108 (.tmp 40)) rfl ?_); refine ld91 (.tmp 40) rfl rfl b7 ((ln - 1) * 512) rfl (nums .u8 bC) (by rw [nums_length, hSl]) HSr.out ?_)
      | ((with_reducible refine gate_ (.store 108 (.tmp 6) (.tmp 41)) rfl ?_); refine st91 (.tmp 6) (.tmp 41) rfl rfl rfl w2.heap.size rfl cb.toArray (nums .u8 bC) (by rw [List.size_toArray, hcbl]) (by rw [nums_length, hSl]) (HN.out _) rfl rfl ?_)
      | (go_at_call 49; (with_reducible refine HCL.out.mono ?_); rintro e w5 ⟨v, rfl, hr, hb⟩; have HR := Aside0.mk (And.intro hr hb); clear hr hb))
    go_ret2
    exact read_end HX.out H3.out HbC.out.symm rfl HR.out
end Go.Proofs.YtaflofcnjakaaaaDoor.M

namespace Go.Proofs.YtaflofcnjakaaaaDoor.M
open Go.RowKit Go.Maps Go.Proofs.YtaflofcnjakaaaaDoorW.PrintWords Go.Proofs.YtaflofcnjakaaaaDoorW.PrintLast Go.Proofs.YtaflofcnjakaaaaDoorW.PrintMore
set_option linter.unusedVariables false
set_option linter.unusedSimpArgs false
theorem take_set (L : List (List Int)) (i : Nat) (hi : i < L.length) : (L.take i ++ List.replicate (L.length - i) []).set i (L.getD i []) = L.take (i + 1) ++ List.replicate (L.length - (i + 1)) [] := by
  rw [List.set_append_right _ _ (by rw [List.length_take]; omega), List.length_take, Nat.min_eq_left (by omega), Nat.sub_self]
  obtain ⟨m, hm⟩ : ∃ m, L.length - i = m + 1 := ⟨L.length - i - 1, by omega⟩
  rw [hm, List.replicate_succ, List.set_cons_zero, show L.length - (i + 1) = m by omega, List.take_succ_eq_append_getElem hi, List.getD_eq_getElem?_getD, List.getElem?_eq_getElem hi]
  simp only [List.append_assoc, List.singleton_append, Option.getD_some]
end Go.Proofs.YtaflofcnjakaaaaDoor.M

namespace Go.Proofs.YtaflofcnjakaaaaDoor.M
open Go.RowKit Go.Maps Go.Proofs.YtaflofcnjakaaaaDoorW.PrintWords Go.Proofs.YtaflofcnjakaaaaDoorW.PrintLast Go.Proofs.YtaflofcnjakaaaaDoorW.PrintMore
set_option linter.unusedVariables false
set_option linter.unusedSimpArgs false
open Go.ChangeMaps (setBlock)
def DS.flush (s : DS) : DS := ⟨s.n, (List.range s.n).map s.cur, fun _ => [], 0, s.r, s.wr, wrap64 (s.fl + 1)⟩
section
variable {w w' : World} {base g lb cp mb k : Nat} {F G : Nat → Prop} {s : DS} {f : Nat → Value} {D : DataW Value}
theorem DkIn.putL (h : DkIn w base g s lb cp mb f k D) (i : Nat) (hi : i < s.n) (b : List Int) (hb : b.length = 512) :
    DkIn (w.setCells lb (i * 512) (nums .u8 b)) base g ⟨s.n, s.L.set i b, s.W, s.c, s.r, s.wr, s.fl⟩ lb cp mb f k D ∧ w.grownBy (w.setCells lb (i * 512) (nums .u8 b)) (some lb) := by
  obtain ⟨c0, hl, hM, hc, hf⟩ := Kd.R_elem h.la [] (i : Int) (by omega) (by omega)
  have h3 := Kd.R_seg h.la (i : Int) (by omega) (by omega) (j := 0) (seg := nums .u8 b) hl hc (by show 0 + _ ≤ 512; rw [nums_length, hb]; decide) (x' := b) (okp := fun _ => False) ?_ (fun _ h => h.elim)
  · obtain ⟨h3, h4⟩ := h3
    rw [Int.toNat_natCast] at h3 h4
    have e : i * sec.sz + 0 = i * 512 := Nat.add_zero (i * 512)
    rw [e] at h3 h4
    have far := h4
    refine ⟨⟨blk_grown h.hd h4 (by have := h.lbg; simpa using this.symm), Rs.of h3, h.mp.kept h4 (by have := h.mbl; simpa using this), h.kc, h.at_, h.ks, fun j hj => (h.rows j hj).step (fun q hq hlt => h4.block q hlt (by have := (h.rowg hj hq).2.2; simpa using this)), h.wl, h.sep, h.sepl, h.gb, h.mbb, h.n2, h.nm⟩, h4⟩
  · refine ⟨hb, ?_⟩
    have hl' : c0.length = 512 := hl
    rw [List.take_zero, List.nil_append, List.drop_of_length_le (by rw [hl', nums_length, hb]; decide), List.append_nil]
theorem run_clear (hb : ∃ es ck, w.heap[mb]? = some (.map es ck)) (ty : TypeId) : ∃ ck, (Builtin.clear_ #[98] ty #[.map (some mb)]).run Tryd.prog w = .ok (.tuple #[]) (setBlock w mb (.map #[] ck)) := by
  obtain ⟨es, ck, hb⟩ := hb
  refine ⟨ck, ?_⟩
  simp [Builtin.clear_, run_underlying Tryd.underlying98, MapKept.run_getObj_map hb, MapKept.run_setObj_map _ hb, Result.andThen, setBlock]
theorem DkIn.clear (h : DkIn w base g s lb cp mb f k D) (ck : Nat) : DkIn (setBlock w mb (.map #[] ck)) base g ⟨s.n, s.L, fun _ => [], 0, s.r, s.wr, s.fl⟩ lb cp mb (fun _ => .slice none 0 0) 0 (.map []) ∧ Chg (fun x => x = mb) w (setBlock w mb (.map #[] ck)) := by
  obtain ⟨es, ck0, hb, r⟩ := h.mp
  have far : ∀ b, b ≠ mb → (setBlock w mb (.map #[] ck)).heap[b]? = w.heap[b]? := fun b hne => Go.ChangeMaps.heap_setBlock_other hb _ hne
  refine ⟨⟨(far g (fun e => h.mbg e.symm)).trans h.hd, h.la.step (fun b hb2 _ => far b (by cases hb2; exact fun e => h.mbl e.symm)), ⟨#[], ck, Go.ChangeMaps.heap_setBlock_same hb _, ⟨by simp, MapKept.stamped_empty ck, by simp⟩, Nat.le_refl _, rfl⟩, Nat.le_refl _, fun i _ => rfl, fun kl h => by simp [Maps.has] at h, fun i _ => ⟨fun k hk => by simp [Value.ownBlock] at hk, OwnRow.none_ _ _ _ _ _⟩, fun i _ => Nat.le_refl _, fun i j b _ _ h => by simp [Value.ownBlock] at h, fun i _ => by simp [Value.ownBlock], h.gb, h.mbb, h.n2, h.nm⟩, ⟨rfl, rfl, rfl, by simp [setBlock], fun b hlt hne => far b hne⟩⟩
end
end Go.Proofs.YtaflofcnjakaaaaDoor.M

namespace Go.Proofs.YtaflofcnjakaaaaDoor.M
open Go.RowKit Go.Maps Go.Proofs.YtaflofcnjakaaaaDoorW.PrintWords Go.Proofs.YtaflofcnjakaaaaDoorW.PrintLast Go.Proofs.YtaflofcnjakaaaaDoorW.PrintMore
set_option linter.unusedVariables false
set_option linter.unusedSimpArgs false
open Go.ChangeMaps (setBlock)
def Half (s : DS) (left : Lit → Bool) (L : List (List Int)) : Prop := L.length = s.n ∧ ∀ j, j < s.n → L.getD j [] = if s.W j ≠ [] ∧ left (.int .i64 (j : Int)) = false then s.cur j else s.L.getD j []
theorem Half.step {s : DS} {left : Lit → Bool} {L : List (List Int)} (h : Half s left L) (i : Nat) (hi : i < s.n) (hW : s.W i ≠ []) : Half s (fun z => left z && !z.sameKey (.int .i64 (i : Int))) (L.set i (s.cur i)) := by
  refine ⟨by rw [List.length_set]; exact h.1, fun j hj => ?_⟩
  by_cases e : j = i
  · subst e
    have : (Lit.int .i64 (j : Int)).sameKey (.int .i64 (j : Int)) = true := WideAt.sameKey_self trivial
    rw [if_pos ⟨hW, by simp [this]⟩, List.getD_eq_getElem?_getD, List.getElem?_set_self (by rw [h.1]; exact hj)]
    rfl
  · have hne : (Lit.int .i64 (j : Int)).sameKey (.int .i64 (i : Int)) = false := Maps.sameKey_ne (fun e2 => e (by injection e2 with _ e2; omega))
    rw [List.getD_eq_getElem?_getD, List.getElem?_set_ne (Ne.symm e), ← List.getD_eq_getElem?_getD, h.2 j hj]
    simp [hne]
theorem Half.done {s : DS} {left : Lit → Bool} {L : List (List Int)} (h : Half s left L) (hl : ∀ kl, left kl = false) : L = (List.range s.n).map s.cur := by
  apply List.ext_getElem?
  intro j
  by_cases hj : j < s.n
  · have h1 := h.2 j hj
    rw [List.getElem?_map, List.getElem?_range hj, List.getElem?_eq_getElem (by rw [h.1]; exact hj)]
    rw [List.getD_eq_getElem?_getD, List.getElem?_eq_getElem (by rw [h.1]; exact hj)] at h1
    show some _ = some _
    congr 1
    have h1 : L[j]'(by rw [h.1]; exact hj) = _ := h1
    rw [h1]
    by_cases hW : s.W j = []
    · rw [if_neg (fun e => e.1 hW), cur_nil hW]
    · rw [if_pos ⟨hW, hl _⟩]
  · rw [List.getElem?_eq_none (by rw [h.1]; omega), List.getElem?_eq_none (by simp; omega)]
theorem Half.start {w : World} {base g lb cp mb k : Nat} {s : DS} {f : Nat → Value} {D : DataW Value} (h : DkIn w base g s lb cp mb f k D) : Half s (Maps.has D) s.L := by
  refine ⟨(Kd.R_reads' h.la).1.symm, fun j hj => ?_⟩
  rw [if_neg]
  rintro ⟨h1, h2⟩
  have h3 := h.at_ j hj
  rw [Maps.atKey_of_not_has h2] at h3
  have h4 : f j = .slice none 0 0 := (DataW.held.inj h3).symm
  have h5 := h.rows j hj
  rw [h4] at h5
  have h6 := (Kd.R_reads' h5).1
  exact h1 (List.length_eq_zero_iff.1 h6.symm)
theorem DkIn.iter {w : World} {base g lb cp mb k r n : Nat} {s : DS} {f : Nat → Value} {D D' : DataW Value} {left : Lit → Bool} {cnt : Nat} (h : DkIn w base g s lb cp mb f k D) (hr : w.ranges Tryd.prog 3 asIs mb r n D' left cnt) : ¬ Fp g lb mb f s.n r := by
  have hne := hr.ne
  obtain ⟨es, clock, since, seen, c0, _, _, _, _, hb, _⟩ := hr
  rintro (e | e | e | ⟨i, hi, e⟩)
  · rw [e, h.hd] at hb; cases hb
  · obtain ⟨cs, hc⟩ := (h.la.typed rfl).2.2
    rw [e, hc] at hb; cases hb
  · exact hne e
  · obtain ⟨cs, hc⟩ := ((h.rows i hi).typed e).2.2
    rw [hc] at hb; cases hb
set_option maxHeartbeats 1000000 in
set_option maxRecDepth 100000 in
theorem flush_in (g : Nat) (w : World) (base lb cp mb k : Nat) (f : Nat → Value) (D : DataW Value) (s : DS) (h : DkIn w base g s lb cp mb f k D) :
    Calls Tryd.prog 27 #[.pointer (some ⟨g, 0, none⟩)] w fun e w' => (∃ v, e = .returned v) ∧ DkIn w' base g s.flush lb cp mb (fun _ => .slice none 0 0) 0 (.map []) ∧ Chg (fun x => x = g ∨ x = lb ∨ x = mb) w w' := by
  have hn2 := h.n2
  have hnm := h.nm
  have hg4 : w.cell? ⟨g, 4, none⟩ = some (.int .i64 s.fl) := blk_cell h.hd 4
  have hgf : w.frozen? ⟨g, 4, none⟩ = false := blk_frozen h.hd 4
  have H1 := Aside0.mk (h.acts 4 (wrap64 (s.fl + 1)) ⟨s.n, s.L, s.W, s.c, s.r, s.wr, wrap64 (s.fl + 1)⟩ ⟨rfl, rfl, rfl, rfl⟩ rfl)
  have HX := Aside0.mk (Chg.setCell (F := fun x => x = g ∨ x = lb ∨ x = mb) (Chg.refl _ w) (.inl rfl) 4 (.int .i64 (wrap64 (s.fl + 1))))
  clear h
  go_enter Tryd.func27, Tryd.ntmps27
  go_upto_region 1 with (fail)
  clear hg4 hgf
  generalize w.setCell ⟨g, 4, none⟩ (.int .i64 (wrap64 (s.fl + 1))) = w2 at H1 HX ⊢
  have hg1 : w2.cell? ⟨g, 1, none⟩ = some (.map (some mb)) := blk_cell H1.out.hd 1
  have HH := Aside0.mk (Half.start H1.out)
  go_wp2_with (at_range; refine wpList_range_own _ rfl _ 98 rfl 3 97 keyed Tryd.underlying98 asIs mb k D rfl H1.out.mp ?_; intro w3 hrg hgr hsz)
  have HR0 := Aside0.mk hrg
  have HD0 := Aside0.mk (H1.out.chg (G := fun _ => False) (Chg.of_grown hgr (fun _ h => by cases h)) (fun _ _ => id))
  have HX0 := Aside0.mk (HX.out.trans (Chg.of_grown (F := fun _ => False) hgr (fun _ h => by cases h)) (fun _ h => h.elim))
  have HRF := Aside0.mk HX.out.size
  clear hrg hgr hsz hg1
  generalize w2.heap.size = r at HR0 HRF ⊢
  go_loopg [] (Maps.size D) (fun q wr => ∃ (L : List (List Int)) (left : Lit → Bool), Aside0 (wr.ranges Tryd.prog 3 asIs mb r k D left q) ∧ Aside0 (DkIn wr base g ⟨s.n, L, s.W, s.c, s.r, s.wr, wrap64 (s.fl + 1)⟩ lb cp mb f k D) ∧ Aside0 (Half s left L) ∧ Aside0 (Chg (fun x => x = g ∨ x = lb ∨ x = mb) w wr))
  case atStart => exact ⟨s.L, _, HR0, HD0, ⟨HH.out⟩, HX0⟩
  case round =>
    clear HR0 HD0 HX0 HH
    obtain ⟨L, left, HR, HD, HF, HX1⟩ := hrel
    rcases HR.out.next keyed 0 with ⟨hc0, hl0, hrun⟩ | ⟨key, v, kl, y, w4, cnt, hkey, hlk, hv, hat, hrun, hrg, hlt, hgr, hsz, hen⟩
    · have hLd := HF.out.done hl0
      have hg1 : wr.cell? ⟨g, 1, none⟩ = some (.map (some mb)) := blk_cell HD.out.hd 1
      obtain ⟨ck, hclr⟩ := run_clear (by obtain ⟨es, ck, hb, _⟩ := HD.out.mp; exact ⟨es, ck, hb⟩) 0
      have HE := Aside0.mk (HD.out.clear ck)
      go_wp2
      refine bodyPost_end (results_none rfl _ _ _) rfl ?_
      refine ⟨⟨_, rfl⟩, ?_, HX1.out.trans HE.out.2 (fun x h => .inl (.inr (.inr h)))⟩
      have h1 := HE.out.1
      rw [hLd] at h1
      exact h1
    · obtain ⟨i, hi, rfl, hW⟩ := HD.out.ks kl (Maps.has_true_of_atKey hat)
      have hvf : v = f i := by
        have h1 := HD.out.at_ i hi
        rw [hat] at h1
        have h2 : some (DataW.held v, ([] : List MemPlace)) = some y := hv
        have h3 := congrArg Prod.fst (Option.some.inj h2)
        exact DataW.held.inj (h3.trans h1)
      subst hvf
      obtain ⟨x, rfl, hx, _⟩ := Maps.keyOf_int_inv Tryd.underlying3 hkey
      obtain rfl : x = (i : Int) := by injection hx with _ hx; exact hx.symm
      have hW : s.W i ≠ [] := hW
      have hi : i < s.n := hi
      have hit := HD.out.iter HR.out
      have HD4 := Aside0.mk (HD.out.chg (G := fun x => x = r) (Chg.of_grown hgr (fun x hx => (Option.some.inj hx).symm)) (fun x hx e => hit (e ▸ hx)))
      have hWl : 0 < (s.W i).length := List.length_pos_iff.2 hW
      have hrow := HD4.out.rows i hi
      have hWc : (s.W i).length ≤ 9223372036854775807 := by
        obtain ⟨A7, c7, e7⟩ := Kd.R_slice hrow
        exact (Kd.R_reads' (e7 ▸ hrow)).2.2.2.1
      obtain ⟨b7, c7, e7, _⟩ := Kd.R_form hrow hWl
      rw [e7] at hrow hrun hen
      have hS7 := sec_at hrow ((s.W i).length - 1) (show (s.W i).length - 1 < (s.W i).length by omega)
      have hcur : (s.W i).getD ((s.W i).length - 1) [] = s.cur i := (cur_last hW).symm
      have hS7' : w4.rangeAt b7 (((s.W i).length - 1) * 512) (nums .u8 (s.cur i)) ∧ (s.cur i).length = 512 := by
        rw [← hcur]; exact ⟨hS7.1, hS7.2.1⟩
      have HST := Aside0.mk (And.intro hi hW)
      have HIT := Aside0.mk hit
      have hth : w4.there lb (i * 512) 512 := (sec_at HD4.out.la i hi).2.2
      have hg0 : w4.cell? ⟨g, 0, none⟩ = some (.slice (some ⟨lb, 0, none⟩) s.n cp) := blk_cell HD4.out.hd 0
      have HRG := Aside0.mk hrg
      have HLT := Aside0.mk hlt
      have HX4 := Aside0.mk (HX1.out.trans (Chg.of_grown (F := fun x => x = r) hgr (fun x hx => (Option.some.inj hx).symm)) (fun x hx => .inr (by subst hx; exact HRF.out)))
      have hi0 : (0 : Int) ≤ (i : Int) := by omega
      have hi1 : (i : Int) < (s.n : Int) := by omega
      have hneb : b7 ≠ lb := by
        have h1 := HD4.out.rowg (b := b7) hi (by rw [e7]; rfl)
        exact h1.2.2
      have hlbg : lb ≠ g := HD4.out.lbg
      have Hcl := Aside0.mk hS7'.2
      obtain ⟨bC, hbC⟩ : ∃ x, x = s.cur i := ⟨_, rfl⟩
      have HbC := Aside0.mk hbC
      rw [← hbC] at hS7'
      obtain ⟨hSr, hSl⟩ := hS7'
      generalize (s.W i).length = ln at *
      have hl1 : (0 : Int) ≤ (ln : Int) - 1 := by omega
      have hl2 : (ln : Int) - 1 < (ln : Int) := by omega
      have hcl : (nums .u8 bC).length = 512 := by rw [nums_length, hSl]
      have hnb := nums_one bC
      have hu91 := Tryd.underlying108
      have hi91 : (Tryd.prog.info? 108).map (·.size) = some (nums .u8 bC).length := by rw [hcl]; exact size91
      have HSl := Aside0.mk hSl
      generalize hcb : nums .u8 bC = cb at *
      have HCB := Aside0.mk hcb
      clear hcb hit hrow e7 hS7 hcur hW hi hrg hlt hsz hgr hbC hlk hat hv hkey hx HD HR hSl
      have hlw : IntKind.i64.wrap ((ln : Int) - 1) = (ln : Int) - 1 := IntWalk.i64_in _ (by omega)
      have hlt0 : ((ln : Int) - 1).toNat = ln - 1 := by omega
      have hix : ∀ W : World, (Instr.indexAt 97 (.slice (some ⟨b7, 0, none⟩) ln c7) (.int .i64 ((ln : Int) - 1))).run Tryd.prog W = .ok (.pointer (some ⟨b7, (ln - 1) * 512, none⟩)) W := fun W => by go_simp; intro h; exact absurd h (by omega)
      go_wp2
      go_region_held3 (fun W => W.cell? ⟨g, 0, none⟩ = some (.slice (some ⟨lb, 0, none⟩) s.n cp) ∧ W.rangeAt b7 ((ln - 1) * 512) cb ∧ W.there lb (i * 512) 512) (first | assumption | (simp only [World.cell?_drew]; exact ⟨hg0, hSr, hth⟩) | exact ⟨(World.cell?_setCells_out lb cb _ _ _ (fun e => absurd e.symm hlbg)).trans hg0, World.rangeAt_setCells_apart (w := w4.drew) hSr lb _ cb (.inl hneb), World.there_setCells (w := w4.drew) hth lb _ cb⟩ | fail) (fail)
      have HP := (HD4.out.chg (G := fun _ => False) (w' := w4.drew) ⟨rfl, rfl, rfl, Nat.le_refl _, fun _ _ _ => rfl⟩ (fun _ _ => id)).putL i HST.out.1 (s.cur i) Hcl.out
      rw [← HbC.out, HCB.out] at HP
      have HR6 := Aside0.mk ((HRG.out.kept (row := none) (w' := w4.drew) ⟨rfl, rfl, rfl, Nat.le_refl _, fun _ _ _ => rfl⟩ (by simp) (by simp)).kept HP.2 (by have := HD4.out.mbl; simpa using this) (by have := HIT.out; simpa using fun e => this (.inr (.inl e))))
      have HD6 := Aside0.mk HP.1
      have HF6 := Aside0.mk (HF.out.step i HST.out.1 HST.out.2)
      have HX6 := Aside0.mk ((HX4.out.trans (b := w4) (c := w4.drew) (G := fun _ => False) ⟨rfl, rfl, rfl, Nat.le_refl _, fun _ _ _ => rfl⟩ (fun _ h => h.elim)).trans (Chg.of_grown (F := fun x => x = lb) HP.2 (fun x hx => (Option.some.inj hx).symm)) (fun x hx => .inl (.inr (.inl hx))))
      rw [HbC.out] at HD6
      clear HP hSr hth hg0 hix
      generalize w4.drew.setCells lb (i * 512) cb = w5 at HR6 HD6 HX6 ⊢
      go_wp2
      go_roundg cnt
      case rel => exact ⟨_, _, HR6, HD6, HF6, HX6⟩
      case measure => exact HLT.out
end Go.Proofs.YtaflofcnjakaaaaDoor.M

namespace Go.Proofs.YtaflofcnjakaaaaDoor.M
open Go.RowKit Go.Maps Go.Proofs.YtaflofcnjakaaaaDoorW.PrintWords Go.Proofs.YtaflofcnjakaaaaDoorW.PrintLast Go.Proofs.YtaflofcnjakaaaaDoorW.PrintMore
set_option linter.unusedVariables false
set_option linter.unusedSimpArgs false
def kilnref3_Copy.f (l : List Int) : Option (List Int) := if l.length ≤ 140737488355328 then some l else none
set_option maxHeartbeats 1000000 in
set_option maxRecDepth 100000 in
theorem kilnref3_Copy.calls (A0 : Option Addr) (c0 : Nat) (l0 : List Int) (r : List Int) (w : World) (hr0 : Kd.C (Kd.int .u8) w A0 l0.length l0) (hc0 : l0.length ≤ c0) (h : kilnref3_Copy.f l0 = some r) :
    Calls Tryd.prog 44 #[.slice A0 l0.length c0] w fun e w' => ∃ v0_ : Value, e = .returned (v0_) ∧ Kd.R (Kd.int .u8) 5 w' w.heap.size (fun _ => True) v0_ r ∧ Below w.heap.size w w' := by
  unfold kilnref3_Copy.f at h
  split at h
  · rename_i hl
    obtain rfl := Option.some.inj h
    obtain ⟨n, hn⟩ : ∃ n, n = l0.length := ⟨_, rfl⟩
    rw [← hn] at hr0 hl ⊢
    have HR := Aside0.mk hr0
    have HN := Aside0.mk hn
    clear hr0 hc0 h hn
    go_enter Tryd.func44, Tryd.ntmps44
    go_wp2_with (first
      | (at_make; refine Kd.R_make (Kd.int .u8) (w0 := w) w.heap.size 5 rfl (N := 6) rfl 28 (.tmp 5) (.tmp 5) rfl (n : Int) rfl rfl Tryd.underlying28 (.int .u8 0) 1 info5 rfl (by decide) (by decide) 0 (ok := fun _ => True) (okp := fun _ => True) rfl (fun _ h => h) trivial (by omega) (by omega) (Below.refl _ _) (Nat.le_refl _) ?_; intro v6 w6 hr hb hg hat; rw [Int.toNat_natCast] at hr; obtain ⟨A6, c6, e6⟩ := Kd.R_slice hr; rw [List.length_replicate] at e6; subst e6; have H6 := Aside0.mk hr; have HB6 := Aside0.mk hb; clear hr hb hg hat)
      | ((with_reducible refine gate_builtin (b := .copy) (xs := #[.tmp 7, .tmp 8]) rfl ?_); refine Kd.R_copy (0 : Int) (w0 := w) w.heap.size rfl (.tmp 7) (.tmp 8) 28 28 5 rfl Tryd.underlying28 (by kernel_rfl) (.slice A6 n c6) (List.replicate n 0) l0 A0 n c0 (fun _ => True) rfl rfl H6.out (Kd.C_below HR.out HB6.out) HB6.out (below_size HB6.out) ?_; intro w9 hr hb hg; have H9 := Aside0.mk hr; have HB9 := Aside0.mk hb; clear hr hb hg))
    go_ret
    have h9 := H9.out
    rw [List.length_replicate, Nat.min_self, List.take_of_length_le (by rw [HN.out]; exact Nat.le_refl _), List.drop_of_length_le (by rw [List.length_replicate]; exact Nat.le_refl _), List.append_nil] at h9
    exact ⟨_, rfl, h9, HB9.out⟩
  · cases h
end Go.Proofs.YtaflofcnjakaaaaDoor.M

namespace Go.Proofs.YtaflofcnjakaaaaDoor.P
open Go.Proofs.YtaflofcnjakaaaaDoor.Wr
open Go.RowKit Go.Proofs.YtaflofcnjakaaaaDoorW.PrintWords Go.Proofs.YtaflofcnjakaaaaDoorW.PrintLast Go.Proofs.YtaflofcnjakaaaaDoorW.PrintMore
attribute [local go_sem] max2_int min2_int max_two min_two max_three min_three max_four min_four   -- for this text's walks alone
set_option linter.unusedVariables false
set_option linter.unusedSimpArgs false
def errW : Option Int → Value
  | none => .nilIface
  | some c => .iface 0 (.int .i64 c)
theorem errW_none : errW none = .nilIface := rfl
theorem errW_some (c : Int) : errW (some c) = .iface 0 (.int .i64 c) := rfl
theorem info5 : (Tryd.prog.info? 5).map (fun i => (i.zero, i.size, i.bytes)) = some (some (.int .u8 0), 1, 1) := by kernel_rfl
theorem info106 : (Tryd.prog.info? 106).map (fun i => (i.zero, i.size, i.bytes)) = some (some (.agg #[(.int .i64 0), (.slice none 0 0)]), 2, 32) := by kernel_rfl
def rd_L1 (xs : List (List Int)) (i : Int) : (List Int) := xs.getD i.toNat ([] : List Int)
theorem at_L1 {w : World} {A : Option Addr} {n : Nat} {xs : List (List Int)} (h : Kd.C (Kd.slice 5 (Kd.int .u8)) w A n xs) (i : Int) (h0 : 0 ≤ i) (h1 : i < n) : ∃ ad A0 c0, A = some ad ∧ w.cell? (ad.add i.toNat) = some (.slice A0 (rd_L1 xs i).length c0) ∧ (rd_L1 xs i).length ≤ c0 ∧ (Kd.int .u8).C w A0 (rd_L1 xs i).length (rd_L1 xs i) := by
  obtain ⟨ad, c, e, _, hK, hc0⟩ := Kd.C_get h ([] : List Int) i h0 h1
  have hc : ∀ j u, c[j]? = some u → w.cell? (ad.add (i.toNat * 1 + j)) = some u := hc0
  obtain ⟨A0, c0, rfl, l0, g0⟩ := hK
  exact ⟨ad, A0, c0, e, by have hq := hc 0 _ rfl; rwa [Nat.mul_one, Nat.add_zero] at hq, l0, g0⟩
structure S106 where
  f0 : Int
  f1 : (List Int)
def z106 : S106 := ⟨(0 : Int), ([] : List Int)⟩
def k106 : Kd S106 := Kd.iso (Kd.pair (Kd.int .i64) (Kd.slice 5 (Kd.int .u8))) (fun x : S106 => (x.f0, x.f1))
theorem k106_heap : Kd.Heap k106 := Kd.heap_iso _ (Kd.heap_pair (Kd.heap_int .i64) (Kd.heap_slice 5 (Kd.heap_int .u8)))
theorem k106_open {w : World} {x : S106} {cs : List Value} (h : k106.K w x cs) : ∃ A1 c1, cs = [.int .i64 x.f0, .slice A1 x.f1.length c1] ∧ x.f1.length ≤ c1 ∧ (Kd.int .u8).C w A1 x.f1.length x.f1 := by
  obtain ⟨_, _, rfl, rfl, ⟨A1, c1, rfl, l1, g1⟩⟩ := h
  exact ⟨A1, c1, rfl, l1, g1⟩
theorem k106_mk (w : World) (x : S106) {A1 : Option Addr} {c1 : Nat} (l1 : x.f1.length ≤ c1) (g1 : (Kd.int .u8).C w A1 x.f1.length x.f1) : k106.K w x [.int .i64 x.f0, .slice A1 x.f1.length c1] := ⟨[.int .i64 x.f0], [.slice A1 x.f1.length c1], rfl, rfl, ⟨A1, c1, rfl, l1, g1⟩⟩
theorem k106_openF {W : World} {ok : Nat → Prop} {x : S106} {cs : List Value} (h : Kd.FK k106 W ok x cs) : ∃ A1 c1, cs = [.int .i64 x.f0, .slice A1 x.f1.length c1] ∧ x.f1.length ≤ c1 ∧ Kd.F (Kd.int .u8) W ok A1 x.f1.length x.f1 := by
  obtain ⟨A1, c1, rfl, l1, _⟩ := k106_open (Kd.FK_now h)
  exact ⟨A1, c1, rfl, l1, (fun W' hW => by obtain ⟨A1_, c1_, he, l1_, g1_⟩ := k106_open (h W' hW); injection (Option.some.inj (show some (Value.slice A1 x.f1.length c1) = some (Value.slice A1_ x.f1.length c1_) from congrArg (fun l => l[1]?) he)) with ha_ _ _; rw [ha_]; exact g1_)⟩
theorem k106_mkF (W : World) (ok : Nat → Prop) (x : S106) {A1 : Option Addr} {c1 : Nat} (l1 : x.f1.length ≤ c1) (g1 : Kd.F (Kd.int .u8) W ok A1 x.f1.length x.f1) : Kd.FK k106 W ok x [.int .i64 x.f0, .slice A1 x.f1.length c1] := fun W2 hW => k106_mk W2 x l1 (g1 W2 hW)
def rd_T106 (xs : List S106) (i : Int) : S106 := xs.getD i.toNat z106
theorem at_T106 {w : World} {A : Option Addr} {n : Nat} {xs : List S106} (h : Kd.C k106 w A n xs) (i : Int) (h0 : 0 ≤ i) (h1 : i < n) : ∃ ad A1 c1, A = some ad ∧ w.cell? (ad.add (i.toNat * 2)) = some (.int .i64 (rd_T106 xs i).f0) ∧ w.cell? ⟨(ad.add (i.toNat * 2)).block, (ad.add (i.toNat * 2)).off + 1, none⟩ = some (.slice A1 (rd_T106 xs i).f1.length c1) ∧ (rd_T106 xs i).f1.length ≤ c1 ∧ (Kd.int .u8).C w A1 (rd_T106 xs i).f1.length (rd_T106 xs i).f1 := by
  obtain ⟨ad, c, e, _, hK, hc0⟩ := Kd.C_get h z106 i h0 h1
  have hc : ∀ j u, c[j]? = some u → w.cell? (ad.add (i.toNat * 2 + j)) = some u := hc0
  obtain ⟨A1, c1, rfl, l1, g1⟩ := k106_open hK
  exact ⟨ad, A1, c1, e, hc 0 _ rfl, by rw [← add_field _ _ 1 (by omega)]; exact hc 1 _ rfl, l1, g1⟩
end Go.Proofs.YtaflofcnjakaaaaDoor.P

namespace Go.Proofs.YtaflofcnjakaaaaDoor.P
open Go.Proofs.YtaflofcnjakaaaaDoor.Wr
open Go.RowKit Go.Proofs.YtaflofcnjakaaaaDoorW.PrintWords Go.Proofs.YtaflofcnjakaaaaDoorW.PrintLast Go.Proofs.YtaflofcnjakaaaaDoorW.PrintMore
attribute [local go_sem] max2_int min2_int max_two min_two max_three min_three max_four min_four   -- for this text's walks alone
set_option linter.unusedVariables false
set_option linter.unusedSimpArgs false
mutual
def wire_Fixed.j1 : Nat → Int → Int → Option (List Int × Int)
  | 0, _, _ => none
  | k + 1, x0, x1 => if 0 ≤ x1 then (if (x1 : Int).toNat ≤ 281474976710656 then ((some (List.replicate (x1 : Int).toNat 0 : List Int)).bind fun y101 => (wire_Fixed.l0 k x0 y101 (y101.length : Int) 0)) else (none)) else (none)
def wire_Fixed.l0 : Nat → Int → List Int → Int → Int → Option (List Int × Int)
  | 0, _, _, _, _ => none
  | k + 1, x0, x6, x29, x30 => if x30 < x29 then (if 0 ≤ (IntKind.u64.wrap (8 * (IntKind.u64.wrap (x30)))) then (if 0 ≤ x30 then (if x30 < (x6.length : Int) then (wire_Fixed.l0 k x0 (x6.set (x30 : Int).toNat ((shr .u64 x0 (IntKind.u64.wrap (8 * (IntKind.u64.wrap (x30))))) % 256)) x29 (wrap64 (x30 + 1))) else (none)) else (none)) else (none)) else (some (x6, 0))
def wire_Fixed.j0 : Nat → Int → Int → Bool → Option (List Int × Int)
  | 0, _, _, _ => none
  | k + 1, x0, x1, x8 => if x8 = true then (some (([] : List Int), 1)) else (if x1 < 8 then (if 0 ≤ (IntKind.u64.wrap (8 * (IntKind.u64.wrap (x1)))) then (if (shr .u64 x0 (IntKind.u64.wrap (8 * (IntKind.u64.wrap (x1))))) = 0 then (wire_Fixed.j1 k x0 x1) else (some (([] : List Int), 12))) else (none)) else (wire_Fixed.j1 k x0 x1))
end
def wire_Fixed.f (k : Nat) (a0 : Int) (a1 : Int) : Option (List Int × Int) := if a1 < 1 then (wire_Fixed.j0 k a0 a1 true) else (wire_Fixed.j0 k a0 a1 (decide (a1 > 8)))
theorem wire_Fixed.mono_l : ∀ k, (∀ y0 y1, LeO (wire_Fixed.j1 k y0 y1) (wire_Fixed.j1 (k + 1) y0 y1)) ∧ (∀ y0 y1 y2 y3, LeO (wire_Fixed.l0 k y0 y1 y2 y3) (wire_Fixed.l0 (k + 1) y0 y1 y2 y3)) ∧ (∀ y0 y1 y2, LeO (wire_Fixed.j0 k y0 y1 y2) (wire_Fixed.j0 (k + 1) y0 y1 y2))
  | 0 => ⟨fun _ _ r h => by simp [wire_Fixed.j1] at h, fun _ _ _ _ r h => by simp [wire_Fixed.l0] at h, fun _ _ _ r h => by simp [wire_Fixed.j0] at h⟩
  | k + 1 => by
    obtain ⟨ih0, ih1, ih2⟩ := wire_Fixed.mono_l k
    refine ⟨?_, ?_, ?_⟩
    · intro y0 y1
      unfold wire_Fixed.j1
      repeat' first
      | (with_reducible exact ih0 _ _)
      | (with_reducible exact ih1 _ _ _ _)
      | (with_reducible exact ih2 _ _ _)
      | (with_reducible exact LeO.refl _)
      | (with_reducible exact LeO.none _)
      | (with_reducible refine LeO.ite ?_ ?_)
      | (with_reducible refine LeO.bind ?_ (fun _ => ?_))
      | exact ih0 _ _
      | exact ih1 _ _ _ _
      | exact ih2 _ _ _
      | exact LeO.none _
      | refine LeO.ite ?_ ?_
      | refine LeO.bind ?_ (fun _ => ?_)
    · intro y0 y1 y2 y3
      unfold wire_Fixed.l0
      repeat' first
      | (with_reducible exact ih0 _ _)
      | (with_reducible exact ih1 _ _ _ _)
      | (with_reducible exact ih2 _ _ _)
      | (with_reducible exact LeO.refl _)
      | (with_reducible exact LeO.none _)
      | (with_reducible refine LeO.ite ?_ ?_)
      | (with_reducible refine LeO.bind ?_ (fun _ => ?_))
      | exact ih0 _ _
      | exact ih1 _ _ _ _
      | exact ih2 _ _ _
      | exact LeO.none _
      | refine LeO.ite ?_ ?_
      | refine LeO.bind ?_ (fun _ => ?_)
    · intro y0 y1 y2
      unfold wire_Fixed.j0
      repeat' first
      | (with_reducible exact ih0 _ _)
      | (with_reducible exact ih1 _ _ _ _)
      | (with_reducible exact ih2 _ _ _)
      | (with_reducible exact LeO.refl _)
      | (with_reducible exact LeO.none _)
      | (with_reducible refine LeO.ite ?_ ?_)
      | (with_reducible refine LeO.bind ?_ (fun _ => ?_))
      | exact ih0 _ _
      | exact ih1 _ _ _ _
      | exact ih2 _ _ _
      | exact LeO.none _
      | refine LeO.ite ?_ ?_
      | refine LeO.bind ?_ (fun _ => ?_)
theorem wire_Fixed.mono : ∀ a0 a1 k, LeO (wire_Fixed.f k a0 a1) (wire_Fixed.f (k + 1) a0 a1) := by
  intro a0 a1 k
  obtain ⟨ih0, ih1, ih2⟩ := wire_Fixed.mono_l k
  unfold wire_Fixed.f
  repeat' first
      | (with_reducible exact ih0 _ _)
      | (with_reducible exact ih1 _ _ _ _)
      | (with_reducible exact ih2 _ _ _)
      | (with_reducible exact LeO.refl _)
      | (with_reducible exact LeO.none _)
      | (with_reducible refine LeO.ite ?_ ?_)
      | (with_reducible refine LeO.bind ?_ (fun _ => ?_))
      | exact ih0 _ _
      | exact ih1 _ _ _ _
      | exact ih2 _ _ _
      | exact LeO.none _
      | refine LeO.ite ?_ ?_
      | refine LeO.bind ?_ (fun _ => ?_)
set_option maxHeartbeats 8000000 in
set_option maxRecDepth 100000 in
theorem wire_Fixed.calls (k : Nat) (a0 : Int) (a1 : Int) (r1 : List Int) (r2 : Int) (w : World) (h : wire_Fixed.f k a0 a1 = some (r1, r2)) :
    Calls Tryd.prog 63 #[.int .u64 a0, .int .i64 a1] w fun e w' => ∃ v0_ : Value, e = .returned (.tuple #[v0_, .int .i64 r2]) ∧ Kd.R (Kd.int .u8) 5 w' w.heap.size (fun _ => True) v0_ r1 ∧ Below w.heap.size w w' := by
  have HB := Aside0.mk (Below.refl w.heap.size w)
  have H : (if a1 < 1 then (wire_Fixed.j0 k a0 a1 true) else (wire_Fixed.j0 k a0 a1 (decide (a1 > 8)))) = some (r1, r2) := h
  clear h
  have HC3 := Aside0.mk H
  clear H
  go_enter Tryd.func63, Tryd.ntmps63
  go_upto_block 0 with (fail)
  go_cut [] (fun wc => ∃ (kq : Nat), Aside0 (wire_Fixed.j1 kq a0 a1 = some (r1, r2)) ∧ Aside0 (kq ≤ k) ∧ Aside0 (Below w.heap.size w wc))
  case first =>
    have H := HC3.out
    clear HC3
    have HC4 := Aside0.mk H
    clear H
    go_upto_region 1 with (fail)
    go_cut [8] (fun v8 wc => ∃ (kq : Nat) (x8_3 : Bool), v8 = .bool x8_3 ∧ Aside0 (wire_Fixed.j0 kq a0 a1 x8_3 = some (r1, r2)) ∧ Aside0 (kq ≤ k) ∧ Aside0 (Below w.heap.size w wc))
    case first =>
      have H := HC4.out
      clear HC4
      by_cases c5 : a1 < 1
      · rw [if_pos c5] at H
        have c5b0 : decide (a1 < 1) = true := decide_eq_true c5
        clear c5
        (first | rw [c5b0] | (simp only [i64_w, i32_w]; rw [c5b0]) | skip)
        have H' := Aside0.mk H
        clear H
        go_wp2
        go_meet
        case rel => exact ⟨_, (true), (by first | rfl | (simp; done) | (simp [*]; done)), H', ⟨by first | omega | exact Nat.le_refl _⟩, ⟨by repeat (first | (with_reducible first | exact HB.out | apply below_alloc | apply pw_below_drewN | apply below_drew1) | exact HB.out)⟩⟩
      · rw [if_neg c5] at H
        have c5b0 : decide (a1 < 1) = false := decide_eq_false c5
        clear c5
        (first | rw [c5b0] | (simp only [i64_w, i32_w]; rw [c5b0]) | skip)
        have H' := Aside0.mk H
        clear H
        go_wp2
        go_meet
        case rel => exact ⟨_, (decide (a1 > 8)), (by first | rfl | (simp; done) | (simp [*]; done)), H', ⟨by first | omega | exact Nat.le_refl _⟩, ⟨by repeat (first | (with_reducible first | exact HB.out | apply below_alloc | apply pw_below_drewN | apply below_drew1) | exact HB.out)⟩⟩
    case rest =>
      clear HC4
      try clear p2
      try clear c5
      try clear c5b0
      obtain ⟨kq, x8_3, rfl, HA, HJ3, HB⟩ := hcut
      cases kq with
      | zero => exact absurd HA.out (by simp [wire_Fixed.j0])
      | succ kj3 =>
        have H := HA.out
        clear HA
        simp only [wire_Fixed.j0] at H
        by_cases c6 : x8_3 = true
        · subst c6
          have H1 : (some (([] : List Int), 1)) = some (r1, r2) := by rw [if_pos rfl] at H; exact H
          clear H
          have H := H1
          clear H1
          simp only [Option.some.injEq, Prod.mk.injEq] at H
          obtain ⟨rfl, rfl⟩ := H
          go_wp2
          go_ret2
          exact ⟨_, by first | rfl | (simp [errW_none, errW_some] <;> rfl) | (simp [*, errW_none, errW_some] <;> rfl), by first | exact Kd.R_nil _ _ _ _ _ | exact Kd.N_nil _ _ _ _ _ | exact Kd.V_nil _ _ _ _ _ | exact Kd.Q_nil _ _ _ _ _ | exact Kd.S_nil _ _ _ _ _, by repeat (first | (with_reducible first | exact HB.out | apply below_alloc | apply pw_below_drewN | apply below_drew1) | exact HB.out)⟩
        · replace c6 := Bool.eq_false_iff.mpr c6
          subst c6
          have H1 : (if a1 < 8 then (if 0 ≤ (IntKind.u64.wrap (8 * (IntKind.u64.wrap (a1)))) then (if (shr .u64 a0 (IntKind.u64.wrap (8 * (IntKind.u64.wrap (a1))))) = 0 then (wire_Fixed.j1 kj3 a0 a1) else (some (([] : List Int), 12))) else (none)) else (wire_Fixed.j1 kj3 a0 a1)) = some (r1, r2) := by rw [if_neg (show ¬ (false = true) by decide)] at H; exact H
          clear H
          have H := H1
          clear H1
          by_cases c7 : a1 < 8
          · rw [if_pos c7] at H
            have c7b0 : decide (a1 < 8) = true := decide_eq_true c7
            clear c7
            obtain ⟨ji8, hji8⟩ : ∃ j_ : Int, (IntKind.u64.wrap (8 * (IntKind.u64.wrap (a1)))) = j_ := ⟨_, rfl⟩
            replace H : (if 0 ≤ (ji8) then (if (shr .u64 a0 (ji8)) = 0 then (wire_Fixed.j1 kj3 a0 a1) else (some (([] : List Int), 12))) else (none)) = some (r1, r2) := by first | (rw [hji8] at H; exact H) | (simp only [hji8] at H ⊢; exact H)
            by_cases c9 : 0 ≤ (ji8)
            · rw [if_pos c9] at H
              have c9b0 := eq_true c9
              have c9b1 : decide (0 ≤ (ji8)) = true := decide_eq_true c9
              clear c9
              obtain ⟨ji10, hji10⟩ : ∃ j_ : Int, (shr .u64 a0 (ji8)) = j_ := ⟨_, rfl⟩
              replace H : (if (ji10) = 0 then (wire_Fixed.j1 kj3 a0 a1) else (some (([] : List Int), 12))) = some (r1, r2) := by first | (rw [hji10] at H; exact H) | (simp only [hji10] at H ⊢; exact H)
              have hji10_ : (a0 / 2 ^ min (ji8).toNat 64) = ji10 := hji10
              have hji10z : (ji8) ≤ 64 → (a0 / 2 ^ (ji8).toNat) = ji10 := shr_small hji10
              by_cases c11 : (ji10) = 0
              · rw [if_pos c11] at H
                have c11b0 : ((ji10) == 0) = true := beq_iff_eq.mpr c11
                have c11b1 : ((ji10) != 0) = false := bne_eq_false_iff_eq.mpr c11
                clear c11
                have H' := Aside0.mk H
                clear H
                go_wp2
                go_meet
                case rel => exact ⟨_, H', ⟨by have := HJ3.out; first | omega | exact Nat.le_refl _⟩, ⟨by repeat (first | (with_reducible first | exact HB.out | apply below_alloc | apply pw_below_drewN | apply below_drew1) | exact HB.out)⟩⟩
              · rw [if_neg c11] at H
                have c11b0 : ((ji10) == 0) = false := beq_eq_false_iff_ne.mpr c11
                have c11b1 : ((ji10) != 0) = true := bne_iff_ne.mpr c11
                simp only [Option.some.injEq, Prod.mk.injEq] at H
                obtain ⟨rfl, rfl⟩ := H
                go_wp2
                go_ret2
                exact ⟨_, by first | rfl | (simp [errW_none, errW_some] <;> rfl) | (simp only [← hji8, ← hji10]; first | rfl | (simp [errW_none, errW_some] <;> rfl)) | (simp [*, errW_none, errW_some] <;> rfl), by first | exact Kd.R_nil _ _ _ _ _ | exact Kd.N_nil _ _ _ _ _ | exact Kd.V_nil _ _ _ _ _ | exact Kd.Q_nil _ _ _ _ _ | exact Kd.S_nil _ _ _ _ _, by repeat (first | (with_reducible first | exact HB.out | apply below_alloc | apply pw_below_drewN | apply below_drew1) | exact HB.out)⟩
            · rw [if_neg c9] at H
              exact absurd H (by simp)
          · rw [if_neg c7] at H
            have c7b0 : decide (a1 < 8) = false := decide_eq_false c7
            clear c7
            have H' := Aside0.mk H
            clear H
            go_wp2
            go_meet
            case rel => exact ⟨_, H', ⟨by have := HJ3.out; first | omega | exact Nat.le_refl _⟩, ⟨by repeat (first | (with_reducible first | exact HB.out | apply below_alloc | apply pw_below_drewN | apply below_drew1) | exact HB.out)⟩⟩
  case rest =>
    clear HC3
    try clear c1
    try clear p2
    try clear c5
    try clear c5b0
    try clear c6
    try clear c7
    try clear c7b0
    try clear c9
    try clear c9b0
    try clear c9b1
    try clear c11
    try clear c11b0
    try clear c11b1
    try clear p2
    obtain ⟨kq, HA, HJ2, HB⟩ := hcut
    cases kq with
    | zero => exact absurd HA.out (by simp [wire_Fixed.j1])
    | succ kj2 =>
      have H := HA.out
      clear HA
      simp only [wire_Fixed.j1] at H
      by_cases c12 : 0 ≤ a1
      · rw [if_pos c12] at H
        have c12b0 := eq_true c12
        have c12b1 : decide (0 ≤ a1) = true := decide_eq_true c12
        clear c12
        by_cases c13 : (a1 : Int).toNat ≤ 281474976710656
        · rw [if_pos c13] at H
          have c13b0 := eq_true c13
          have c13b1 : decide ((a1 : Int).toNat ≤ 281474976710656) = true := decide_eq_true c13
          clear c13
          obtain ⟨y101, hy101⟩ : ∃ y_ : List Int, y_ = (List.replicate (a1 : Int).toNat 0) := ⟨_, rfl⟩
          replace H : (wire_Fixed.l0 kj2 a0 y101 (y101.length : Int) 0) = some (r1, r2) := by first | (rw [hy101]; with_reducible exact H) | (have H2_ := (Option.bind_some _ _).symm.trans H; rw [hy101]; with_reducible exact H2_) | (have H2_ := (Option.bind_some _ _).symm.trans H; with_reducible exact H2_) | with_reducible exact H | (rw [hy101]; exact H) | exact H
          have Ny101 := Aside0.mk hy101
          clear hy101
          have H' := Aside0.mk H
          clear H
          go_wp2_with (first | ((with_reducible refine gate_dst (N := 27) rfl ?_); refine Kd.R_make (Kd.int .u8) _ 5 rfl (N := 27) rfl 28 _ _ rfl a1 rfl rfl Tryd.underlying28 (.int .u8 0) 1 info5 rfl (by decide) (by omega) 0 (ok := fun _ => True) (okp := fun _ => True) rfl (fun _ hk => hk) trivial (of_decide_eq_true (by first | (with_reducible assumption) | assumption)) (Nat.le_trans (Nat.mul_le_mul_right _ (of_decide_eq_true (by first | (with_reducible assumption) | assumption) : a1.toNat ≤ 281474976710656)) (by omega)) (Below.refl _ _) (Nat.le_refl _) ?_; intro v102 w14 ho15 hb hg_ hnew_; clear hg_ hnew_; (first | rw [← Ny101.out] at ho15 | (simp only [Int.reduceToNat] at ho15; rw [← Ny101.out] at ho15)); have n0_ := Aside0.mk (Kd.R_lower ho15 (below_size (by repeat (first | (with_reducible first | exact HB.out | apply below_alloc | apply pw_below_drewN | apply below_drew1) | exact HB.out)))); have n1_ := Aside0.mk (below_step (by repeat (first | (with_reducible first | exact HB.out | apply below_alloc | apply pw_below_drewN | apply below_drew1) | exact HB.out)) hb); clear HB; have HO103 := n0_; have HB := n1_; clear n0_ n1_; clear hb ho15; obtain ⟨Ao16, co16, eo16⟩ := Kd.R_slice HO103.out; subst eo16))
          go_loopg [30] kj2 (fun kq v30 w' => ∃ (x6_2 : List Int) (x30_2 : Int), v30 = .int .i64 x30_2 ∧ Aside0 (wire_Fixed.l0 kq a0 x6_2 (y101.length : Int) x30_2 = some (r1, r2)) ∧ Aside0 (kq ≤ kj2) ∧ Aside0 (Kd.R (Kd.int .u8) 5 w' w.heap.size (fun _ => True) (.slice Ao16 y101.length co16) x6_2) ∧ Aside0 (Below w.heap.size w w'))
          case atStart => exact ⟨(y101), (0), (by first | rfl | (simp; done) | (simp [*]; done)), H', ⟨Nat.le_refl _⟩, ⟨by (with_reducible repeat (first | apply Kd.R_alloc | apply Kd.R_drewN | apply Kd.R_drew)); exact HO103.out⟩, ⟨by repeat (first | (with_reducible first | exact HB.out | apply below_alloc | apply pw_below_drewN | apply below_drew1) | exact HB.out)⟩⟩
          case round =>
            clear H'
            try clear c1
            try clear p2
            try clear c5
            try clear c5b0
            try clear c6
            try clear c7
            try clear c7b0
            try clear c9
            try clear c9b0
            try clear c9b1
            try clear c11
            try clear c11b0
            try clear c11b1
            try clear c12
            try clear c12b0
            try clear c12b1
            try clear c13
            try clear c13b0
            try clear c13b1
            try clear p2
            obtain ⟨x6_2, x30_2, rfl, HA, HK2, HO_6, HB⟩ := hrel
            have hl6_2 := (Kd.R_reads' HO_6.out).1
            rw [hl6_2] at HO_6
            (try simp only [hl6_2])
            cases gk with
            | zero => exact absurd HA.out (by simp [wire_Fixed.l0])
            | succ k2 =>
              have H := HA.out
              clear HA
              simp only [wire_Fixed.l0] at H
              by_cases c17 : x30_2 < (y101.length : Int)
              · rw [if_pos c17] at H
                have c17b0 : decide (x30_2 < (y101.length : Int)) = true := decide_eq_true c17
                (try have c17b0_h := c17b0)
                (try simp only [hl6_2] at c17b0_h)
                clear c17
                obtain ⟨ji18, hji18⟩ : ∃ j_ : Int, (IntKind.u64.wrap (8 * (IntKind.u64.wrap (x30_2)))) = j_ := ⟨_, rfl⟩
                replace H : (if 0 ≤ (ji18) then (if 0 ≤ x30_2 then (if x30_2 < (x6_2.length : Int) then (wire_Fixed.l0 k2 a0 (x6_2.set (x30_2 : Int).toNat ((shr .u64 a0 (ji18)) % 256)) (y101.length : Int) (wrap64 (x30_2 + 1))) else (none)) else (none)) else (none)) = some (r1, r2) := by first | (rw [hji18] at H; exact H) | (simp only [hji18] at H ⊢; exact H)
                by_cases c19 : 0 ≤ (ji18)
                · rw [if_pos c19] at H
                  have c19b0 := eq_true c19
                  have c19b1 : decide (0 ≤ (ji18)) = true := decide_eq_true c19
                  clear c19
                  obtain ⟨ji20, hji20⟩ : ∃ j_ : Int, (shr .u64 a0 (ji18)) = j_ := ⟨_, rfl⟩
                  replace H : (if 0 ≤ x30_2 then (if x30_2 < (x6_2.length : Int) then (wire_Fixed.l0 k2 a0 (x6_2.set (x30_2 : Int).toNat ((ji20) % 256)) (y101.length : Int) (wrap64 (x30_2 + 1))) else (none)) else (none)) = some (r1, r2) := by first | (rw [hji20] at H; exact H) | (simp only [hji20] at H ⊢; exact H)
                  have hji20_ : (a0 / 2 ^ min (ji18).toNat 64) = ji20 := hji20
                  have hji20z : (ji18) ≤ 64 → (a0 / 2 ^ (ji18).toNat) = ji20 := shr_small hji20
                  by_cases c21 : 0 ≤ x30_2
                  · rw [if_pos c21] at H
                    have c21b0 : decide (0 ≤ x30_2) = true := decide_eq_true c21
                    clear c21
                    by_cases c22 : x30_2 < (x6_2.length : Int)
                    · rw [if_pos c22] at H
                      have c22b0 : decide (x30_2 < (x6_2.length : Int)) = true := decide_eq_true c22
                      (try have c22b0_h := c22b0)
                      (try simp only [hl6_2] at c22b0_h)
                      clear c22
                      obtain ⟨y104, hy104⟩ : ∃ y_ : List Int, y_ = (x6_2.set (x30_2 : Int).toNat ((ji20) % 256)) := ⟨_, rfl⟩
                      replace H : (wire_Fixed.l0 k2 a0 y104 (y101.length : Int) (wrap64 (x30_2 + 1))) = some (r1, r2) := by first | (rw [hy104]; with_reducible exact H) | (have H2_ := (Option.bind_some _ _).symm.trans H; rw [hy104]; with_reducible exact H2_) | (have H2_ := (Option.bind_some _ _).symm.trans H; with_reducible exact H2_) | with_reducible exact H | (rw [hy104]; exact H) | exact H
                      have Ny104 := Aside0.mk hy104
                      clear hy104
                      have H' := Aside0.mk H
                      clear H
                      have p23 : 0 ≤ (x30_2 : Int) := of_decide_eq_true (by first | (with_reducible assumption) | assumption)
                      have q23 : (x30_2 : Int) < ((x6_2.length : Int) : Int) := of_decide_eq_true (by first | (with_reducible assumption) | assumption)
                      obtain ⟨go23, co23, eo23, gb23, gl23, cl23, HG23⟩ := Kd.R_form HO_6.out (by omega)
                      (first | cases eo23 | (injection eo23 with ea_ en_ ec_; (first | subst ea_ | (injection ea_ with ea_; subst ea_)); subst ec_; clear en_))
                      have GB23 := Aside0.mk gb23
                      have GG23 := Aside0.mk HG23
                      clear gb23 gl23 HG23
                      obtain ⟨hx23_0, hf23_0⟩ := Kd.R_celln 0 HO_6.out (x30_2 : Int) p23 q23
                      replace p23 := eq_true p23
                      replace q23 := eq_true q23
                      have HP24 := Kd.R_putg HO_6.out (x30_2 : Int) ((ji20) % 256)
                      go_wp2_with (first | ((with_reducible refine gate_store (t := 5) (p := 41) rfl ?_); refine store_event (t := 5) (p := 41) (v := ?vo_w25) (w1 := (wr.setCell ⟨go23, (x30_2 : Int).toNat, none⟩ (.int .u8 ((ji20) % 256)))) ?hg ?ho ?hn ?hr ?_; (case ho => rfl); (case hg => rfl); (case hn => rfl); (case hr => first | (go_simp; done) | (go_simp; rfl)); intro w25 hw; have hg : wr.grownBy w25 (some go23) := (by rw [hw]; exact HP24.2); have hp_ : Kd.R (Kd.int .u8) 5 w25 w.heap.size (fun _ => True) (.slice (some ⟨go23, 0, none⟩) x6_2.length co16) y104 := (by rw [hw, Ny104.out]; exact HP24.1); clear HP24; have n0_ := Aside0.mk (hp_); have n1_ := Aside0.mk ((by rw [hw]; exact below_set (HB.out) GB23.out : Below w.heap.size w w25)); clear HO_6; clear HB; have HO_6 := n0_; have HB := n1_; clear n0_ n1_; clear hg hw hp_))
                      (try simp only [← hl6_2])
                      go_roundg k2
                      case measure => have := HJ2.out; have := HK2.out; omega
                      case rel => exact ⟨(y104), (wrap64 (x30_2 + 1)), (by first | rfl | (simp; done) | (simp [*]; done)), H', ⟨by have := HJ2.out; have := HK2.out; omega⟩, ⟨by (try simp only [hl6_2]); (with_reducible repeat (first | apply Kd.R_alloc | apply Kd.R_drewN | apply Kd.R_drew)); exact HO_6.out⟩, ⟨by repeat (first | (with_reducible first | exact HB.out | apply below_alloc | apply pw_below_drewN | apply below_drew1) | exact HB.out)⟩⟩
                    · rw [if_neg c22] at H
                      exact absurd H (by simp)
                  · rw [if_neg c21] at H
                    exact absurd H (by simp)
                · rw [if_neg c19] at H
                  exact absurd H (by simp)
              · rw [if_neg c17] at H
                have c17b0 : decide (x30_2 < (y101.length : Int)) = false := decide_eq_false c17
                (try have c17b0_h := c17b0)
                (try simp only [hl6_2] at c17b0_h)
                clear c17
                simp only [Option.some.injEq, Prod.mk.injEq] at H
                obtain ⟨rfl, rfl⟩ := H
                go_wp2
                go_ret2
                exact ⟨_, by first | rfl | (simp [errW_none, errW_some] <;> rfl) | (simp [*, errW_none, errW_some] <;> rfl), by (with_reducible repeat (first | apply Kd.R_alloc | apply Kd.R_drewN | apply Kd.R_drew)); exact HO_6.out, by repeat (first | (with_reducible first | exact HB.out | apply below_alloc | apply pw_below_drewN | apply below_drew1) | exact HB.out)⟩
        · rw [if_neg c13] at H
          exact absurd H (by simp)
      · rw [if_neg c12] at H
        exact absurd H (by simp)
def root_fixed.f (k : Nat) (a0 : Int) (a1 : Int) : Option (List Int) := (wire_Fixed.f k (IntKind.u64.wrap (a0)) a1).bind fun bt105 => (some bt105.1)
theorem root_fixed.mono : ∀ a0 a1 k, LeO (root_fixed.f k a0 a1) (root_fixed.f (k + 1) a0 a1) := by
  intro a0 a1 k
  unfold root_fixed.f
  repeat' first
      | (with_reducible exact wire_Fixed.mono _ _ _)
      | (with_reducible exact LeO.refl _)
      | (with_reducible exact LeO.none _)
      | (with_reducible refine LeO.ite ?_ ?_)
      | (with_reducible refine LeO.bind ?_ (fun _ => ?_))
      | exact wire_Fixed.mono _ _ _
      | exact LeO.none _
      | refine LeO.ite ?_ ?_
      | refine LeO.bind ?_ (fun _ => ?_)
set_option maxHeartbeats 8000000 in
set_option maxRecDepth 100000 in
theorem root_fixed.calls (k : Nat) (a0 : Int) (a1 : Int) (r : List Int) (w : World) (h : root_fixed.f k a0 a1 = some r) :
    Calls Tryd.prog 37 #[.int .i64 a0, .int .i64 a1] w fun e w' => ∃ v0_ : Value, e = .returned (v0_) ∧ Kd.R (Kd.int .u8) 5 w' w.heap.size (fun _ => True) v0_ r ∧ Below w.heap.size w w' := by
  have HB := Aside0.mk (Below.refl w.heap.size w)
  have H : ((wire_Fixed.f k (IntKind.u64.wrap (a0)) a1).bind fun bt105 => (some bt105.1)) = some r := h
  clear h
  replace H := Option.bind_eq_some_iff.mp H
  obtain ⟨⟨t105, t106⟩, A30, H⟩ := H
  replace H : (some t105) = some r := H
  have A3 := Aside0.mk A30
  clear A30
  obtain rfl := Option.some.inj H
  go_enter Tryd.func37, Tryd.ntmps37
  go_wp2_with (first | ((with_reducible refine gate_callee (f := 63) rfl ?_); refine goesL_ (some 11) rfl rfl Tryd.func63 (by kernel_rfl) rfl #[.int .u64 (IntKind.u64.wrap (a0)), .int .i64 a1] rfl (by (try simp only [List.map_toArray, List.map_cons, List.map_nil]); first | done | rfl | (simp only [List.length_drop, List.length_take]; rfl)) ?_; (with_reducible refine (wire_Fixed.calls k (IntKind.u64.wrap (a0)) a1 t105 t106 _ A3.out).mono ?_); rintro e w4 ⟨v107, rfl, ho0, hb⟩; refine ⟨_, rfl, ?_⟩; have n0_ := Aside0.mk (Kd.R_lower ho0 (below_size (by repeat (first | (with_reducible first | exact HB.out | apply below_alloc | apply pw_below_drewN | apply below_drew1) | exact HB.out)))); have n1_ := Aside0.mk (below_step (by repeat (first | (with_reducible first | exact HB.out | apply below_alloc | apply pw_below_drewN | apply below_drew1) | exact HB.out)) hb); clear HB; have HO108 := n0_; have HB := n1_; clear n0_ n1_; (try clear hb); (try clear hb2); (try clear hk); (try clear hi); (try clear ho0)))
  go_ret
  exact ⟨_, by first | rfl | (simp [errW_none, errW_some] <;> rfl) | (simp [*, errW_none, errW_some] <;> rfl), by (with_reducible repeat (first | apply Kd.R_alloc | apply Kd.R_drewN | apply Kd.R_drew)); exact HO108.out, by repeat (first | (with_reducible first | exact HB.out | apply below_alloc | apply pw_below_drewN | apply below_drew1) | exact HB.out)⟩
def kilnref18_within.f (a0 : Int) (a1 : Int) (a2 : Int) : Option (Bool) := if a0 ≥ a1 then (some (decide (a0 ≤ a2))) else (some false)
set_option maxHeartbeats 8000000 in
set_option maxRecDepth 100000 in
theorem kilnref18_within.calls (a0 : Int) (a1 : Int) (a2 : Int) (r : Bool) (w : World) (h : kilnref18_within.f a0 a1 a2 = some r) :
    Calls Tryd.prog 64 #[.int .i64 a0, .int .i64 a1, .int .i64 a2] w fun e w' => e = .returned (.bool r) ∧ Drawn0 w w' := by
  have H : (if a0 ≥ a1 then (some (decide (a0 ≤ a2))) else (some false)) = some r := h
  clear h
  by_cases c4 : a0 ≥ a1
  · rw [if_pos c4] at H
    have c4b0 : decide (a1 ≤ a0) = true := decide_eq_true c4
    clear c4
    obtain rfl := Option.some.inj H
    go_enter Tryd.func64, Tryd.ntmps64
    go_wp2
    go_ret
    exact ⟨by first | rfl | (simp; done) | (simp [*]; done), by repeat (first | exact Drawn0.refl _ | apply Drawn0.step)⟩
  · rw [if_neg c4] at H
    have c4b0 : decide (a1 ≤ a0) = false := decide_eq_false c4
    clear c4
    obtain rfl := Option.some.inj H
    go_enter Tryd.func64, Tryd.ntmps64
    go_wp2
    go_ret
    exact ⟨by first | rfl | (simp; done) | (simp [*]; done), by repeat (first | exact Drawn0.refl _ | apply Drawn0.step)⟩
def kilnref18_number.l0 : Nat → Int → Int → List Int → Int → Option (List Int)
  | 0, _, _, _, _ => none
  | k + 1, x0, x1, x5, x6 => if x6 < x1 then (if 0 ≤ (wrap64 (8 * x6)) then (if 0 ≤ x6 then (if x6 < (x5.length : Int) then (kilnref18_number.l0 k x0 x1 (x5.set (x6 : Int).toNat ((shr .i64 x0 (wrap64 (8 * x6))) % 256)) (wrap64 (x6 + 1))) else (none)) else (none)) else (none)) else (some x5)
def kilnref18_number.f (k : Nat) (a0 : Int) (a1 : Int) : Option (List Int) := if 0 ≤ a1 then (if (a1 : Int).toNat ≤ 281474976710656 then (kilnref18_number.l0 k a0 a1 (List.replicate (a1 : Int).toNat 0) 0) else (none)) else (none)
theorem kilnref18_number.mono_l : ∀ k, (∀ y0 y1 y2 y3, LeO (kilnref18_number.l0 k y0 y1 y2 y3) (kilnref18_number.l0 (k + 1) y0 y1 y2 y3))
  | 0 => fun _ _ _ _ r h => by simp [kilnref18_number.l0] at h
  | k + 1 => by
    have ih0 := kilnref18_number.mono_l k
    · intro y0 y1 y2 y3
      unfold kilnref18_number.l0
      repeat' first
      | (with_reducible exact ih0 _ _ _ _)
      | (with_reducible exact LeO.refl _)
      | (with_reducible exact LeO.none _)
      | (with_reducible refine LeO.ite ?_ ?_)
      | (with_reducible refine LeO.bind ?_ (fun _ => ?_))
      | exact ih0 _ _ _ _
      | exact LeO.none _
      | refine LeO.ite ?_ ?_
      | refine LeO.bind ?_ (fun _ => ?_)
theorem kilnref18_number.mono : ∀ a0 a1 k, LeO (kilnref18_number.f k a0 a1) (kilnref18_number.f (k + 1) a0 a1) := by
  intro a0 a1 k
  have ih0 := kilnref18_number.mono_l k
  unfold kilnref18_number.f
  repeat' first
      | (with_reducible exact ih0 _ _ _ _)
      | (with_reducible exact LeO.refl _)
      | (with_reducible exact LeO.none _)
      | (with_reducible refine LeO.ite ?_ ?_)
      | (with_reducible refine LeO.bind ?_ (fun _ => ?_))
      | exact ih0 _ _ _ _
      | exact LeO.none _
      | refine LeO.ite ?_ ?_
      | refine LeO.bind ?_ (fun _ => ?_)
set_option maxHeartbeats 8000000 in
set_option maxRecDepth 100000 in
theorem kilnref18_number.calls (k : Nat) (a0 : Int) (a1 : Int) (r : List Int) (w : World) (h : kilnref18_number.f k a0 a1 = some r) :
    Calls Tryd.prog 41 #[.int .i64 a0, .int .i64 a1] w fun e w' => ∃ v0_ : Value, e = .returned (v0_) ∧ Kd.R (Kd.int .u8) 5 w' w.heap.size (fun _ => True) v0_ r ∧ Below w.heap.size w w' := by
  have HB := Aside0.mk (Below.refl w.heap.size w)
  have H : (if 0 ≤ a1 then (if (a1 : Int).toNat ≤ 281474976710656 then (kilnref18_number.l0 k a0 a1 (List.replicate (a1 : Int).toNat 0) 0) else (none)) else (none)) = some r := h
  clear h
  by_cases c3 : 0 ≤ a1
  · rw [if_pos c3] at H
    have c3b0 := eq_true c3
    have c3b1 : decide (0 ≤ a1) = true := decide_eq_true c3
    clear c3
    by_cases c4 : (a1 : Int).toNat ≤ 281474976710656
    · rw [if_pos c4] at H
      have c4b0 := eq_true c4
      have c4b1 : decide ((a1 : Int).toNat ≤ 281474976710656) = true := decide_eq_true c4
      clear c4
      obtain ⟨y109, hy109⟩ : ∃ y_ : List Int, y_ = (List.replicate (a1 : Int).toNat 0) := ⟨_, rfl⟩
      replace H : (kilnref18_number.l0 k a0 a1 y109 0) = some r := by first | (rw [hy109]; with_reducible exact H) | (have H2_ := (Option.bind_some _ _).symm.trans H; rw [hy109]; with_reducible exact H2_) | (have H2_ := (Option.bind_some _ _).symm.trans H; with_reducible exact H2_) | with_reducible exact H | (rw [hy109]; exact H) | exact H
      have Ny109 := Aside0.mk hy109
      clear hy109
      have H' := Aside0.mk H
      clear H
      go_enter Tryd.func41, Tryd.ntmps41
      go_wp2_with (first | ((with_reducible refine gate_dst (N := 8) rfl ?_); refine Kd.R_make (Kd.int .u8) _ 5 rfl (N := 8) rfl 28 _ _ rfl a1 rfl rfl Tryd.underlying28 (.int .u8 0) 1 info5 rfl (by decide) (by omega) 0 (ok := fun _ => True) (okp := fun _ => True) rfl (fun _ hk => hk) trivial (of_decide_eq_true (by first | (with_reducible assumption) | assumption)) (Nat.le_trans (Nat.mul_le_mul_right _ (of_decide_eq_true (by first | (with_reducible assumption) | assumption) : a1.toNat ≤ 281474976710656)) (by omega)) (Below.refl _ _) (Nat.le_refl _) ?_; intro v110 w5 ho6 hb hg_ hnew_; clear hg_ hnew_; (first | rw [← Ny109.out] at ho6 | (simp only [Int.reduceToNat] at ho6; rw [← Ny109.out] at ho6)); have n0_ := Aside0.mk (Kd.R_lower ho6 (below_size (by repeat (first | (with_reducible first | exact HB.out | apply below_alloc | apply pw_below_drewN | apply below_drew1) | exact HB.out)))); have n1_ := Aside0.mk (below_step (by repeat (first | (with_reducible first | exact HB.out | apply below_alloc | apply pw_below_drewN | apply below_drew1) | exact HB.out)) hb); clear HB; have HO111 := n0_; have HB := n1_; clear n0_ n1_; clear hb ho6))
      go_loopg [6] k (fun kq v6 w' => ∃ (x5_1 : List Int) (x6_1 : Int), v6 = .int .i64 x6_1 ∧ Aside0 (kilnref18_number.l0 kq a0 a1 x5_1 x6_1 = some r) ∧ Aside0 (kq ≤ k) ∧ Aside0 (Kd.R (Kd.int .u8) 5 w' w.heap.size (fun _ => True) v110 x5_1) ∧ Aside0 (Below w.heap.size w w'))
      case atStart => exact ⟨(y109), (0), (by first | rfl | (simp; done) | (simp [*]; done)), H', ⟨Nat.le_refl _⟩, ⟨by (with_reducible repeat (first | apply Kd.R_alloc | apply Kd.R_drewN | apply Kd.R_drew)); exact HO111.out⟩, ⟨by repeat (first | (with_reducible first | exact HB.out | apply below_alloc | apply pw_below_drewN | apply below_drew1) | exact HB.out)⟩⟩
      case round =>
        clear H'
        try clear p2
        try clear c3
        try clear c3b0
        try clear c3b1
        try clear c4
        try clear c4b0
        try clear c4b1
        obtain ⟨x5_1, x6_1, rfl, HA, HK1, HO_5, HB⟩ := hrel
        cases gk with
        | zero => exact absurd HA.out (by simp [kilnref18_number.l0])
        | succ k1 =>
          have H := HA.out
          clear HA
          simp only [kilnref18_number.l0] at H
          by_cases c7 : x6_1 < a1
          · rw [if_pos c7] at H
            have c7b0 : decide (x6_1 < a1) = true := decide_eq_true c7
            clear c7
            obtain ⟨ji8, hji8⟩ : ∃ j_ : Int, (wrap64 (8 * x6_1)) = j_ := ⟨_, rfl⟩
            replace H : (if 0 ≤ (ji8) then (if 0 ≤ x6_1 then (if x6_1 < (x5_1.length : Int) then (kilnref18_number.l0 k1 a0 a1 (x5_1.set (x6_1 : Int).toNat ((shr .i64 a0 (ji8)) % 256)) (wrap64 (x6_1 + 1))) else (none)) else (none)) else (none)) = some r := by first | (rw [hji8] at H; exact H) | (simp only [hji8] at H ⊢; exact H)
            have hji8w : (IntKind.i64.wrap (8 * x6_1)) = ji8 := (i64_w _).trans hji8
            by_cases c9 : 0 ≤ (ji8)
            · rw [if_pos c9] at H
              have c9b0 := eq_true c9
              have c9b1 : decide (0 ≤ (ji8)) = true := decide_eq_true c9
              clear c9
              obtain ⟨ji10, hji10⟩ : ∃ j_ : Int, (shr .i64 a0 (ji8)) = j_ := ⟨_, rfl⟩
              replace H : (if 0 ≤ x6_1 then (if x6_1 < (x5_1.length : Int) then (kilnref18_number.l0 k1 a0 a1 (x5_1.set (x6_1 : Int).toNat ((ji10) % 256)) (wrap64 (x6_1 + 1))) else (none)) else (none)) = some r := by first | (rw [hji10] at H; exact H) | (simp only [hji10] at H ⊢; exact H)
              have hji10_ : (a0 / 2 ^ min (ji8).toNat 64) = ji10 := hji10
              have hji10z : (ji8) ≤ 64 → (a0 / 2 ^ (ji8).toNat) = ji10 := shr_small hji10
              by_cases c11 : 0 ≤ x6_1
              · rw [if_pos c11] at H
                have c11b0 : decide (0 ≤ x6_1) = true := decide_eq_true c11
                clear c11
                by_cases c12 : x6_1 < (x5_1.length : Int)
                · rw [if_pos c12] at H
                  have c12b0 : decide (x6_1 < (x5_1.length : Int)) = true := decide_eq_true c12
                  clear c12
                  obtain ⟨y112, hy112⟩ : ∃ y_ : List Int, y_ = (x5_1.set (x6_1 : Int).toNat ((ji10) % 256)) := ⟨_, rfl⟩
                  replace H : (kilnref18_number.l0 k1 a0 a1 y112 (wrap64 (x6_1 + 1))) = some r := by first | (rw [hy112]; with_reducible exact H) | (have H2_ := (Option.bind_some _ _).symm.trans H; rw [hy112]; with_reducible exact H2_) | (have H2_ := (Option.bind_some _ _).symm.trans H; with_reducible exact H2_) | with_reducible exact H | (rw [hy112]; exact H) | exact H
                  have Ny112 := Aside0.mk hy112
                  clear hy112
                  have H' := Aside0.mk H
                  clear H
                  have p13 : 0 ≤ (x6_1 : Int) := of_decide_eq_true (by first | (with_reducible assumption) | assumption)
                  have q13 : (x6_1 : Int) < ((x5_1.length : Int) : Int) := of_decide_eq_true (by first | (with_reducible assumption) | assumption)
                  obtain ⟨go13, co13, eo13, gb13, gl13, cl13, HG13⟩ := Kd.R_form HO_5.out (by omega)
                  (first | cases eo13 | (injection eo13 with ea_ en_ ec_; (first | subst ea_ | (injection ea_ with ea_; subst ea_)); subst ec_; clear en_))
                  have GB13 := Aside0.mk gb13
                  have GG13 := Aside0.mk HG13
                  clear gb13 gl13 HG13
                  obtain ⟨hx13_0, hf13_0⟩ := Kd.R_celln 0 HO_5.out (x6_1 : Int) p13 q13
                  replace p13 := eq_true p13
                  replace q13 := eq_true q13
                  have HP14 := Kd.R_putg HO_5.out (x6_1 : Int) ((ji10) % 256)
                  go_wp2_with (first | ((with_reducible refine gate_store (t := 5) (p := 21) rfl ?_); refine store_event (t := 5) (p := 21) (v := ?vo_w15) (w1 := (wr.setCell ⟨go13, (x6_1 : Int).toNat, none⟩ (.int .u8 ((ji10) % 256)))) ?hg ?ho ?hn ?hr ?_; (case ho => rfl); (case hg => rfl); (case hn => rfl); (case hr => first | (go_simp; done) | (go_simp; rfl)); intro w15 hw; have hg : wr.grownBy w15 (some go13) := (by rw [hw]; exact HP14.2); have hp_ : Kd.R (Kd.int .u8) 5 w15 w.heap.size (fun _ => True) (.slice (some ⟨go13, 0, none⟩) x5_1.length co13) y112 := (by rw [hw, Ny112.out]; exact HP14.1); clear HP14; have n0_ := Aside0.mk (hp_); have n1_ := Aside0.mk ((by rw [hw]; exact below_set (HB.out) GB13.out : Below w.heap.size w w15)); clear HO_5; clear HB; have HO_5 := n0_; have HB := n1_; clear n0_ n1_; clear hg hw hp_))
                  go_roundg k1
                  case measure => have := HK1.out; omega
                  case rel => exact ⟨(y112), (wrap64 (x6_1 + 1)), (by first | rfl | (simp; done) | (simp [*]; done)), H', ⟨by have := HK1.out; omega⟩, ⟨by (with_reducible repeat (first | apply Kd.R_alloc | apply Kd.R_drewN | apply Kd.R_drew)); exact HO_5.out⟩, ⟨by repeat (first | (with_reducible first | exact HB.out | apply below_alloc | apply pw_below_drewN | apply below_drew1) | exact HB.out)⟩⟩
                · rw [if_neg c12] at H
                  exact absurd H (by simp)
              · rw [if_neg c11] at H
                exact absurd H (by simp)
            · rw [if_neg c9] at H
              exact absurd H (by simp)
          · rw [if_neg c7] at H
            have c7b0 : decide (x6_1 < a1) = false := decide_eq_false c7
            clear c7
            obtain rfl := Option.some.inj H
            go_wp2
            go_ret
            exact ⟨_, by first | rfl | (simp [errW_none, errW_some] <;> rfl) | (simp [*, errW_none, errW_some] <;> rfl), by (with_reducible repeat (first | apply Kd.R_alloc | apply Kd.R_drewN | apply Kd.R_drew)); exact HO_5.out, by repeat (first | (with_reducible first | exact HB.out | apply below_alloc | apply pw_below_drewN | apply below_drew1) | exact HB.out)⟩
    · rw [if_neg c4] at H
      exact absurd H (by simp)
  · rw [if_neg c3] at H
    exact absurd H (by simp)
mutual
def kilnref1_SumAll.l0 : Nat → List (List Int) → Int → Int → Option (Int)
  | 0, _, _, _ => none
  | k + 1, x0, x3, x4 => if x4 < (x0.length : Int) then (kilnref1_SumAll.l1 k x0 x3 x4 0) else (some (Go.bits .xor .u32 x3 4294967295))
def kilnref1_SumAll.l1 : Nat → List (List Int) → Int → Int → Int → Option (Int)
  | 0, _, _, _, _ => none
  | k + 1, x0, x3, x4, x5 => if 0 ≤ x4 then (if x4 < (x0.length : Int) then (if x5 < ((rd_L1 x0 x4).length : Int) then (if 0 ≤ x5 then (kilnref1_SumAll.l2 k x0 (Go.bits .xor .u32 x3 ((rd (rd_L1 x0 x4) x5) % 4294967296)) x4 x5 0) else (none)) else (kilnref1_SumAll.l0 k x0 x3 (wrap64 (x4 + 1)))) else (none)) else (none)
def kilnref1_SumAll.l2 : Nat → List (List Int) → Int → Int → Int → Int → Option (Int)
  | 0, _, _, _, _, _ => none
  | k + 1, x0, x3, x4, x5, x6 => if x6 < 8 then (if (Int.tmod x3 2) = 1 then (kilnref1_SumAll.l2 k x0 (Go.bits .xor .u32 ((Int.tdiv x3 2) % 4294967296) 3988292384) x4 x5 (wrap64 (x6 + 1))) else (kilnref1_SumAll.l2 k x0 ((Int.tdiv x3 2) % 4294967296) x4 x5 (wrap64 (x6 + 1)))) else (kilnref1_SumAll.l1 k x0 x3 x4 (wrap64 (x5 + 1)))
end
def kilnref1_SumAll.f (k : Nat) (l0 : List (List Int)) : Option (Int) := kilnref1_SumAll.l0 k l0 4294967295 0
theorem kilnref1_SumAll.mono_l : ∀ k, (∀ y0 y1 y2, LeO (kilnref1_SumAll.l0 k y0 y1 y2) (kilnref1_SumAll.l0 (k + 1) y0 y1 y2)) ∧ (∀ y0 y1 y2 y3, LeO (kilnref1_SumAll.l1 k y0 y1 y2 y3) (kilnref1_SumAll.l1 (k + 1) y0 y1 y2 y3)) ∧ (∀ y0 y1 y2 y3 y4, LeO (kilnref1_SumAll.l2 k y0 y1 y2 y3 y4) (kilnref1_SumAll.l2 (k + 1) y0 y1 y2 y3 y4))
  | 0 => ⟨fun _ _ _ r h => by simp [kilnref1_SumAll.l0] at h, fun _ _ _ _ r h => by simp [kilnref1_SumAll.l1] at h, fun _ _ _ _ _ r h => by simp [kilnref1_SumAll.l2] at h⟩
  | k + 1 => by
    obtain ⟨ih0, ih1, ih2⟩ := kilnref1_SumAll.mono_l k
    refine ⟨?_, ?_, ?_⟩
    · intro y0 y1 y2
      unfold kilnref1_SumAll.l0
      repeat' first
      | (with_reducible exact ih0 _ _ _)
      | (with_reducible exact ih1 _ _ _ _)
      | (with_reducible exact ih2 _ _ _ _ _)
      | (with_reducible exact LeO.refl _)
      | (with_reducible exact LeO.none _)
      | (with_reducible refine LeO.ite ?_ ?_)
      | (with_reducible refine LeO.bind ?_ (fun _ => ?_))
      | exact ih0 _ _ _
      | exact ih1 _ _ _ _
      | exact ih2 _ _ _ _ _
      | exact LeO.none _
      | refine LeO.ite ?_ ?_
      | refine LeO.bind ?_ (fun _ => ?_)
    · intro y0 y1 y2 y3
      unfold kilnref1_SumAll.l1
      repeat' first
      | (with_reducible exact ih0 _ _ _)
      | (with_reducible exact ih1 _ _ _ _)
      | (with_reducible exact ih2 _ _ _ _ _)
      | (with_reducible exact LeO.refl _)
      | (with_reducible exact LeO.none _)
      | (with_reducible refine LeO.ite ?_ ?_)
      | (with_reducible refine LeO.bind ?_ (fun _ => ?_))
      | exact ih0 _ _ _
      | exact ih1 _ _ _ _
      | exact ih2 _ _ _ _ _
      | exact LeO.none _
      | refine LeO.ite ?_ ?_
      | refine LeO.bind ?_ (fun _ => ?_)
    · intro y0 y1 y2 y3 y4
      unfold kilnref1_SumAll.l2
      repeat' first
      | (with_reducible exact ih0 _ _ _)
      | (with_reducible exact ih1 _ _ _ _)
      | (with_reducible exact ih2 _ _ _ _ _)
      | (with_reducible exact LeO.refl _)
      | (with_reducible exact LeO.none _)
      | (with_reducible refine LeO.ite ?_ ?_)
      | (with_reducible refine LeO.bind ?_ (fun _ => ?_))
      | exact ih0 _ _ _
      | exact ih1 _ _ _ _
      | exact ih2 _ _ _ _ _
      | exact LeO.none _
      | refine LeO.ite ?_ ?_
      | refine LeO.bind ?_ (fun _ => ?_)
theorem kilnref1_SumAll.mono : ∀ a0 k, LeO (kilnref1_SumAll.f k a0) (kilnref1_SumAll.f (k + 1) a0) := by
  intro a0 k
  obtain ⟨ih0, ih1, ih2⟩ := kilnref1_SumAll.mono_l k
  unfold kilnref1_SumAll.f
  repeat' first
      | (with_reducible exact ih0 _ _ _)
      | (with_reducible exact ih1 _ _ _ _)
      | (with_reducible exact ih2 _ _ _ _ _)
      | (with_reducible exact LeO.refl _)
      | (with_reducible exact LeO.none _)
      | (with_reducible refine LeO.ite ?_ ?_)
      | (with_reducible refine LeO.bind ?_ (fun _ => ?_))
      | exact ih0 _ _ _
      | exact ih1 _ _ _ _
      | exact ih2 _ _ _ _ _
      | exact LeO.none _
      | refine LeO.ite ?_ ?_
      | refine LeO.bind ?_ (fun _ => ?_)
set_option maxHeartbeats 8000000 in
set_option maxRecDepth 100000 in
theorem kilnref1_SumAll.calls (k : Nat) (A0 : Option Addr) (c0 : Nat) (l0 : List (List Int)) (r : Int) (w : World) (hr0 : Kd.C (Kd.slice 5 (Kd.int .u8)) w A0 l0.length l0) (hc0 : l0.length ≤ c0) (h : kilnref1_SumAll.f k l0 = some r) :
    Calls Tryd.prog 66 #[.slice A0 l0.length c0] w fun e w' => e = .returned (.int .u32 r) ∧ Drawn0 w w' := by
  have HR0 := Aside0.mk hr0
  have HC0 := Aside0.mk hc0
  clear hr0 hc0
  have H : (kilnref1_SumAll.l0 k l0 4294967295 0) = some r := h
  clear h
  have H' := Aside0.mk H
  clear H
  go_enter Tryd.func66, Tryd.ntmps66
  go_wp2
  go_loopg [3, 4] k (fun kq v3 v4 w' => ∃ (x3_1 : Int) (x4_1 : Int), v3 = .int .u32 x3_1 ∧ v4 = .int .i64 x4_1 ∧ Aside0 (kilnref1_SumAll.l0 kq l0 x3_1 x4_1 = some r) ∧ Aside0 (kq ≤ k) ∧ Drawn0 w w')
  case atStart => exact ⟨(4294967295), (0), (by first | rfl | (simp; done) | (simp [*]; done)), (by first | rfl | (simp; done) | (simp [*]; done)), H', ⟨Nat.le_refl _⟩, by repeat (first | exact Drawn0.refl _ | apply Drawn0.step)⟩
  case round =>
    clear H'
    obtain ⟨x3_1, x4_1, rfl, rfl, HA, HK1, ⟨m1, rfl⟩⟩ := hrel
    cases gk with
    | zero => exact absurd HA.out (by simp [kilnref1_SumAll.l0])
    | succ k1 =>
      have H := HA.out
      clear HA
      simp only [kilnref1_SumAll.l0] at H
      by_cases c2 : x4_1 < (l0.length : Int)
      · rw [if_pos c2] at H
        have c2b0 : decide (x4_1 < (l0.length : Int)) = true := decide_eq_true c2
        clear c2
        have H' := Aside0.mk H
        clear H
        go_wp2
        go_loopg [3, 5] k1 (fun kq v3 v5 w' => ∃ (x3_2 : Int) (x5_2 : Int), v3 = .int .u32 x3_2 ∧ v5 = .int .i64 x5_2 ∧ Aside0 (kilnref1_SumAll.l1 kq l0 x3_2 x4_1 x5_2 = some r) ∧ Aside0 (kq ≤ k1) ∧ Drawn0 w w')
        case atStart => exact ⟨(x3_1), (0), (by first | rfl | (simp; done) | (simp [*]; done)), (by first | rfl | (simp; done) | (simp [*]; done)), H', ⟨Nat.le_refl _⟩, by repeat (first | exact Drawn0.refl _ | apply Drawn0.step)⟩
        case round =>
          clear H'
          try clear c2
          try clear c2b0
          try clear p2
          obtain ⟨x3_2, x5_2, rfl, rfl, HA, HK2, ⟨m2, rfl⟩⟩ := hrel
          cases gk with
          | zero => exact absurd HA.out (by simp [kilnref1_SumAll.l1])
          | succ k2 =>
            have H := HA.out
            clear HA
            simp only [kilnref1_SumAll.l1] at H
            by_cases c3 : 0 ≤ x4_1
            · rw [if_pos c3] at H
              have c3b0 : decide (0 ≤ x4_1) = true := decide_eq_true c3
              clear c3
              by_cases c4 : x4_1 < (l0.length : Int)
              · rw [if_pos c4] at H
                have c4b0 : decide (x4_1 < (l0.length : Int)) = true := decide_eq_true c4
                clear c4
                by_cases c5 : x5_2 < ((rd_L1 l0 x4_1).length : Int)
                · rw [if_pos c5] at H
                  have c5b0 : decide (x5_2 < ((rd_L1 l0 x4_1).length : Int)) = true := decide_eq_true c5
                  clear c5
                  by_cases c6 : 0 ≤ x5_2
                  · rw [if_pos c6] at H
                    have c6b0 : decide (0 ≤ x5_2) = true := decide_eq_true c6
                    clear c6
                    have H' := Aside0.mk H
                    clear H
                    have p113 : 0 ≤ (x4_1 : Int) := of_decide_eq_true (by first | (with_reducible assumption) | assumption)
                    have q113 : x4_1 < (l0.length : Int) := of_decide_eq_true (by first | (with_reducible assumption) | assumption)
                    obtain ⟨ad113, A113_0, c113_0, e113, hx113_0, hl113_0, hi113_0⟩ := at_L1 HR0.out x4_1 p113 q113
                    cases e113
                    have HR113_0 := Aside0.mk hi113_0
                    have HC113_0 := Aside0.mk hl113_0
                    clear hi113_0 hl113_0
                    replace p113 := eq_true p113
                    replace q113 := eq_true q113
                    have p114 : 0 ≤ (x4_1 : Int) := of_decide_eq_true (by first | (with_reducible assumption) | assumption)
                    have q114 : x4_1 < (l0.length : Int) := of_decide_eq_true (by first | (with_reducible assumption) | assumption)
                    obtain ⟨ad114, A114_0, c114_0, e114, hx114_0, hl114_0, hi114_0⟩ := at_L1 HR0.out x4_1 p114 q114
                    obtain rfl : ad113 = ad114 := (by injection e114)
                    have HR114_0 := Aside0.mk hi114_0
                    have HC114_0 := Aside0.mk hl114_0
                    clear hi114_0 hl114_0
                    replace p114 := eq_true p114
                    replace q114 := eq_true q114
                    have ea_ := Option.some.inj (hx113_0.symm.trans hx114_0)
                    injection ea_ with ea_ en_ ec_
                    subst ea_
                    subst ec_
                    clear en_
                    have p115 : 0 ≤ (x5_2 : Int) := of_decide_eq_true (by first | (with_reducible assumption) | assumption)
                    have q115 : x5_2 < ((rd_L1 l0 x4_1).length : Int) := of_decide_eq_true (by first | (with_reducible assumption) | assumption)
                    obtain ⟨ad115, e115, hx115_0⟩ := Kd.at_int HR114_0.out x5_2 p115 q115
                    cases e115
                    replace p115 := eq_true p115
                    replace q115 := eq_true q115
                    go_wp2
                    go_loopg [3, 6] k2 (fun kq v3 v6 w' => ∃ (x3_3 : Int) (x6_3 : Int), v3 = .int .u32 x3_3 ∧ v6 = .int .i64 x6_3 ∧ Aside0 (kilnref1_SumAll.l2 kq l0 x3_3 x4_1 x5_2 x6_3 = some r) ∧ Aside0 (kq ≤ k2) ∧ Drawn0 w w')
                    case atStart => exact ⟨(Go.bits .xor .u32 x3_2 ((rd (rd_L1 l0 x4_1) x5_2) % 4294967296)), (0), (by first | rfl | (simp; done) | (simp [*]; done)), (by first | rfl | (simp; done) | (simp [*]; done)), H', ⟨Nat.le_refl _⟩, by repeat (first | exact Drawn0.refl _ | apply Drawn0.step)⟩
                    case round =>
                      clear H'
                      try clear c1
                      try clear p1
                      try clear q1
                      try clear hx1
                      try clear c2
                      try clear c2b0
                      try clear p2
                      try clear c3
                      try clear c3b0
                      try clear c4
                      try clear c4b0
                      try clear c5
                      try clear c5b0
                      try clear c6
                      try clear c6b0
                      try clear hx113_0
                      try clear hx114_0
                      try clear hx115_0
                      try clear p113
                      try clear p114
                      try clear p115
                      try clear p2
                      try clear q113
                      try clear q114
                      try clear q115
                      obtain ⟨x3_3, x6_3, rfl, rfl, HA, HK3, ⟨m3, rfl⟩⟩ := hrel
                      cases gk with
                      | zero => exact absurd HA.out (by simp [kilnref1_SumAll.l2])
                      | succ k3 =>
                        have H := HA.out
                        clear HA
                        simp only [kilnref1_SumAll.l2] at H
                        by_cases c7 : x6_3 < 8
                        · rw [if_pos c7] at H
                          have c7b0 : decide (x6_3 < 8) = true := decide_eq_true c7
                          clear c7
                          by_cases c8 : (Int.tmod x3_3 2) = 1
                          · rw [if_pos c8] at H
                            have c8b0 : ((Int.tmod x3_3 2) == 1) = true := beq_iff_eq.mpr c8
                            have c8b1 : ((Int.tmod x3_3 2) != 1) = false := bne_eq_false_iff_eq.mpr c8
                            clear c8
                            have H' := Aside0.mk H
                            clear H
                            go_wp2
                            go_roundg k3
                            case measure => have := HK1.out; have := HK2.out; have := HK3.out; omega
                            case rel => exact ⟨(Go.bits .xor .u32 ((Int.tdiv x3_3 2) % 4294967296) 3988292384), (wrap64 (x6_3 + 1)), (by first | rfl | (simp; done) | (simp [*]; done)), (by first | rfl | (simp; done) | (simp [*]; done)), H', ⟨by have := HK1.out; have := HK2.out; have := HK3.out; omega⟩, by repeat (first | exact Drawn0.refl _ | apply Drawn0.step)⟩
                          · rw [if_neg c8] at H
                            have c8b0 : ((Int.tmod x3_3 2) == 1) = false := beq_eq_false_iff_ne.mpr c8
                            have c8b1 : ((Int.tmod x3_3 2) != 1) = true := bne_iff_ne.mpr c8
                            have H' := Aside0.mk H
                            clear H
                            go_wp2
                            go_roundg k3
                            case measure => have := HK1.out; have := HK2.out; have := HK3.out; omega
                            case rel => exact ⟨((Int.tdiv x3_3 2) % 4294967296), (wrap64 (x6_3 + 1)), (by first | rfl | (simp; done) | (simp [*]; done)), (by first | rfl | (simp; done) | (simp [*]; done)), H', ⟨by have := HK1.out; have := HK2.out; have := HK3.out; omega⟩, by repeat (first | exact Drawn0.refl _ | apply Drawn0.step)⟩
                        · rw [if_neg c7] at H
                          have c7b0 : decide (x6_3 < 8) = false := decide_eq_false c7
                          clear c7
                          have H' := Aside0.mk H
                          clear H
                          go_wp2
                          go_roundg k3
                          case measure => have := HK1.out; have := HK2.out; have := HK3.out; omega
                          case rel => exact ⟨(x3_3), (wrap64 (x5_2 + 1)), (by first | rfl | (simp; done) | (simp [*]; done)), (by first | rfl | (simp; done) | (simp [*]; done)), H', ⟨by have := HK1.out; have := HK2.out; have := HK3.out; omega⟩, by repeat (first | exact Drawn0.refl _ | apply Drawn0.step)⟩
                  · rw [if_neg c6] at H
                    exact absurd H (by simp)
                · rw [if_neg c5] at H
                  have c5b0 : decide (x5_2 < ((rd_L1 l0 x4_1).length : Int)) = false := decide_eq_false c5
                  clear c5
                  have H' := Aside0.mk H
                  clear H
                  have p113 : 0 ≤ (x4_1 : Int) := of_decide_eq_true (by first | (with_reducible assumption) | assumption)
                  have q113 : x4_1 < (l0.length : Int) := of_decide_eq_true (by first | (with_reducible assumption) | assumption)
                  obtain ⟨ad113, A113_0, c113_0, e113, hx113_0, hl113_0, hi113_0⟩ := at_L1 HR0.out x4_1 p113 q113
                  cases e113
                  have HR113_0 := Aside0.mk hi113_0
                  have HC113_0 := Aside0.mk hl113_0
                  clear hi113_0 hl113_0
                  replace p113 := eq_true p113
                  replace q113 := eq_true q113
                  go_wp2
                  go_roundg k2
                  case measure => have := HK1.out; have := HK2.out; omega
                  case rel => exact ⟨(x3_2), (wrap64 (x4_1 + 1)), (by first | rfl | (simp; done) | (simp [*]; done)), (by first | rfl | (simp; done) | (simp [*]; done)), H', ⟨by have := HK1.out; have := HK2.out; omega⟩, by repeat (first | exact Drawn0.refl _ | apply Drawn0.step)⟩
              · rw [if_neg c4] at H
                exact absurd H (by simp)
            · rw [if_neg c3] at H
              exact absurd H (by simp)
      · rw [if_neg c2] at H
        have c2b0 : decide (x4_1 < (l0.length : Int)) = false := decide_eq_false c2
        clear c2
        obtain rfl := Option.some.inj H
        go_wp2
        go_ret
        exact ⟨by first | rfl | (simp; done) | (simp [*]; done), by repeat (first | exact Drawn0.refl _ | apply Drawn0.step)⟩
def kilnref1_Sum.f (k : Nat) (l0 : List Int) : Option (Int) := (kilnref1_SumAll.f k (([l0] : List (List Int)))).bind fun t119 => (some t119)
theorem kilnref1_Sum.mono : ∀ a0 k, LeO (kilnref1_Sum.f k a0) (kilnref1_Sum.f (k + 1) a0) := by
  intro a0 k
  unfold kilnref1_Sum.f
  repeat' first
      | (with_reducible exact kilnref1_SumAll.mono _ _)
      | (with_reducible exact LeO.refl _)
      | (with_reducible exact LeO.none _)
      | (with_reducible refine LeO.ite ?_ ?_)
      | (with_reducible refine LeO.bind ?_ (fun _ => ?_))
      | exact kilnref1_SumAll.mono _ _
      | exact LeO.none _
      | refine LeO.ite ?_ ?_
      | refine LeO.bind ?_ (fun _ => ?_)
set_option maxHeartbeats 8000000 in
set_option maxRecDepth 100000 in
theorem kilnref1_Sum.calls (k : Nat) (P0_ : Nat → Prop) (A0 : Option Addr) (c0 : Nat) (l0 : List Int) (r : Int) (w : World) (hs0 : Kd.V (Kd.int .u8) 5 w w.heap.size (fun k_ => P0_ k_) (.slice A0 l0.length c0) l0) (h : kilnref1_Sum.f k l0 = some r) :
    Calls Tryd.prog 43 #[.slice A0 l0.length c0] w fun e w' => e = .returned (.int .u32 r) ∧ Below w.heap.size w w' := by
  have HO0 := Aside0.mk (show Kd.V (Kd.int .u8) 5 w w.heap.size (fun k_ => (P0_ k_ ∨ w.heap.size ≤ k_)) (.slice A0 l0.length c0) l0 from Kd.V_mono hs0 (fun k_ hk => .inl hk))
  have HB := Aside0.mk (Below.refl w.heap.size w)
  have H : ((kilnref1_SumAll.f k (([l0] : List (List Int)))).bind fun t119 => (some t119)) = some r := h
  clear h
  obtain ⟨y116, hy116⟩ : ∃ y_ : List (List Int), y_ = (([l0] : List (List Int))) := ⟨_, rfl⟩
  replace H : ((kilnref1_SumAll.f k y116).bind fun t119 => (some t119)) = some r := by first | (rw [hy116]; with_reducible exact H) | (have H2_ := (Option.bind_some _ _).symm.trans H; rw [hy116]; with_reducible exact H2_) | (have H2_ := (Option.bind_some _ _).symm.trans H; with_reducible exact H2_) | with_reducible exact H | (rw [hy116]; exact H) | exact H
  have Ny116 := Aside0.mk hy116
  clear hy116
  replace H := Option.bind_eq_some_iff.mp H
  obtain ⟨t119, A20, H⟩ := H
  replace H : (some t119) = some r := H
  have A2 := Aside0.mk A20
  clear A20
  obtain rfl := Option.some.inj H
  go_enter Tryd.func43, Tryd.ntmps43
  go_wp2_with (first | ((with_reducible refine gate_dst (N := 4) rfl ?_); refine Kd.N_lit (Kd.slice 5 (Kd.int .u8)) _ 28 ?hg (N' := 4) ?hd (xs := ([l0] : List (List Int))) (inner := [.slice A0 l0.length c0]) (ok := (fun k_ => (P0_ k_ ∨ w.heap.size ≤ k_))) (okp := (fun k_ => (P0_ k_ ∨ w.heap.size ≤ k_))) ?hr ?hp (fun _ hk => hk) ((show ∀ k_, w.heap.size ≤ k_ → (fun k_ => (P0_ k_ ∨ w.heap.size ≤ k_)) k_ from fun k_ hk => (.inr (Nat.le_trans (below_size (by repeat (first | (with_reducible first | exact HB.out | apply below_alloc | apply pw_below_drewN | apply below_drew1) | exact HB.out))) hk))) _ (Nat.le_refl _)) (Below.refl _ _) (Nat.le_refl _) (by simp) ?_; (case hd => rfl); (case hg => rfl); (case hr => first | (go_simp; done) | (go_simp; rfl)); (case hp => exact (Reps.one (show Kd.FK (Kd.slice 5 (Kd.int .u8)) _ _ l0 [.slice A0 l0.length c0] from (Kd.FK_slice_mk (Kd.V_reads' (Kd.V_mono (ok' := (fun k_ => (P0_ k_ ∨ w.heap.size ≤ k_))) (HO0.out) (fun k_ hk => hk))).2.1 (Kd.V_F (Kd.V_mono (ok' := (fun k_ => (P0_ k_ ∨ w.heap.size ≤ k_))) (HO0.out) (fun k_ hk => hk))))) (Reps.none _ _))); intro v117 w3 ho4 hb hg_ hnew_; clear hg_ hnew_; (first | rw [← Ny116.out] at ho4 | (simp only [Int.reduceToNat] at ho4; rw [← Ny116.out] at ho4)); have n0_ := Aside0.mk (Kd.V_elder' (by (with_reducible repeat (first | apply Kd.V_alloc | apply Kd.V_drewN | apply Kd.V_drew)); exact HO0.out) (Kd.N_base ho4) hb); have n1_ := Aside0.mk (Kd.N_lower ho4 (below_size (by repeat (first | (with_reducible first | exact HB.out | apply below_alloc | apply pw_below_drewN | apply below_drew1) | exact HB.out)))); have n2_ := Aside0.mk (below_step (by repeat (first | (with_reducible first | exact HB.out | apply below_alloc | apply pw_below_drewN | apply below_drew1) | exact HB.out)) hb); clear HO0; clear HB; have HO0 := n0_; have HO118 := n1_; have HB := n2_; clear n0_ n1_ n2_; clear hb ho4; obtain ⟨Ao5, co5, eo5⟩ := Kd.N_slice HO118.out; subst eo5) | ((with_reducible refine gate_callee (f := 66) rfl ?_); refine goesL_ (some 5) rfl rfl Tryd.func66 (by kernel_rfl) rfl #[.slice Ao5 y116.length co5] rfl (by (try simp only [List.map_toArray, List.map_cons, List.map_nil]); first | done | rfl | (simp only [List.length_drop, List.length_take]; rfl)) ?_; (with_reducible refine (kilnref1_SumAll.calls k _ _ y116 t119 _ ?side1 ?side2 A2.out).mono ?_); (case side1 => repeat (first | exact (Kd.N_reads' HO118.out).2.2 | (with_reducible refine Kd.C_alloc ?_ _) | (with_reducible refine Kd.C_drewN ?_ _) | (with_reducible refine Kd.C_drew ?_))); (case side2 => exact (Kd.N_reads' HO118.out).2.1); rintro e w' ⟨rfl, ⟨nd, rfl⟩⟩; refine ⟨_, rfl, ?_⟩))
  go_ret
  exact ⟨by first | rfl | (simp [errW_none, errW_some] <;> rfl) | (simp [*, errW_none, errW_some] <;> rfl), by repeat (first | (with_reducible first | exact HB.out | apply below_alloc | apply pw_below_drewN | apply below_drew1) | exact HB.out)⟩
mutual
def wire_ReadFixed.j0 : Nat → List Int → Int → Int → Bool → Option (Int × Int × Int)
  | 0, _, _, _, _ => none
  | k + 1, x0, x1, x2, x11 => if x11 = true then (some (0, 0, 1)) else (if (wrap64 ((x0.length : Int) - x1)) < x2 then (some (0, 0, 10)) else (wire_ReadFixed.l0 k x0 x1 x2 0 (wrap64 (x2 - 1))))
def wire_ReadFixed.l0 : Nat → List Int → Int → Int → Int → Int → Option (Int × Int × Int)
  | 0, _, _, _, _, _ => none
  | k + 1, x0, x1, x2, x9, x10 => if x10 ≥ 0 then (if 0 ≤ (wrap64 (x1 + x10)) then (if (wrap64 (x1 + x10)) < (x0.length : Int) then (wire_ReadFixed.l0 k x0 x1 x2 (Go.bits .or .u64 (IntKind.u64.wrap (x9 * 256)) (IntKind.u64.wrap (rd x0 (wrap64 (x1 + x10))))) (wrap64 (x10 - 1))) else (none)) else (none)) else (some (x9, wrap64 (x1 + x2), 0))
end
def wire_ReadFixed.f (k : Nat) (l0 : List Int) (a1 : Int) (a2 : Int) : Option (Int × Int × Int) := if a1 < 0 then (wire_ReadFixed.j0 k l0 a1 a2 true) else (if a1 > (l0.length : Int) then (wire_ReadFixed.j0 k l0 a1 a2 true) else (if a2 < 1 then (wire_ReadFixed.j0 k l0 a1 a2 true) else (wire_ReadFixed.j0 k l0 a1 a2 (decide (a2 > 8)))))
theorem wire_ReadFixed.mono_l : ∀ k, (∀ y0 y1 y2 y3, LeO (wire_ReadFixed.j0 k y0 y1 y2 y3) (wire_ReadFixed.j0 (k + 1) y0 y1 y2 y3)) ∧ (∀ y0 y1 y2 y3 y4, LeO (wire_ReadFixed.l0 k y0 y1 y2 y3 y4) (wire_ReadFixed.l0 (k + 1) y0 y1 y2 y3 y4))
  | 0 => ⟨fun _ _ _ _ r h => by simp [wire_ReadFixed.j0] at h, fun _ _ _ _ _ r h => by simp [wire_ReadFixed.l0] at h⟩
  | k + 1 => by
    obtain ⟨ih0, ih1⟩ := wire_ReadFixed.mono_l k
    refine ⟨?_, ?_⟩
    · intro y0 y1 y2 y3
      unfold wire_ReadFixed.j0
      repeat' first
      | (with_reducible exact ih0 _ _ _ _)
      | (with_reducible exact ih1 _ _ _ _ _)
      | (with_reducible exact LeO.refl _)
      | (with_reducible exact LeO.none _)
      | (with_reducible refine LeO.ite ?_ ?_)
      | (with_reducible refine LeO.bind ?_ (fun _ => ?_))
      | exact ih0 _ _ _ _
      | exact ih1 _ _ _ _ _
      | exact LeO.none _
      | refine LeO.ite ?_ ?_
      | refine LeO.bind ?_ (fun _ => ?_)
    · intro y0 y1 y2 y3 y4
      unfold wire_ReadFixed.l0
      repeat' first
      | (with_reducible exact ih0 _ _ _ _)
      | (with_reducible exact ih1 _ _ _ _ _)
      | (with_reducible exact LeO.refl _)
      | (with_reducible exact LeO.none _)
      | (with_reducible refine LeO.ite ?_ ?_)
      | (with_reducible refine LeO.bind ?_ (fun _ => ?_))
      | exact ih0 _ _ _ _
      | exact ih1 _ _ _ _ _
      | exact LeO.none _
      | refine LeO.ite ?_ ?_
      | refine LeO.bind ?_ (fun _ => ?_)
theorem wire_ReadFixed.mono : ∀ a0 a1 a2 k, LeO (wire_ReadFixed.f k a0 a1 a2) (wire_ReadFixed.f (k + 1) a0 a1 a2) := by
  intro a0 a1 a2 k
  obtain ⟨ih0, ih1⟩ := wire_ReadFixed.mono_l k
  unfold wire_ReadFixed.f
  repeat' first
      | (with_reducible exact ih0 _ _ _ _)
      | (with_reducible exact ih1 _ _ _ _ _)
      | (with_reducible exact LeO.refl _)
      | (with_reducible exact LeO.none _)
      | (with_reducible refine LeO.ite ?_ ?_)
      | (with_reducible refine LeO.bind ?_ (fun _ => ?_))
      | exact ih0 _ _ _ _
      | exact ih1 _ _ _ _ _
      | exact LeO.none _
      | refine LeO.ite ?_ ?_
      | refine LeO.bind ?_ (fun _ => ?_)
set_option maxHeartbeats 8000000 in
set_option maxRecDepth 100000 in
theorem wire_ReadFixed.calls (k : Nat) (A0 : Option Addr) (c0 : Nat) (l0 : List Int) (a1 : Int) (a2 : Int) (r1 : Int) (r2 : Int) (r3 : Int) (w : World) (hr0 : Kd.C (Kd.int .u8) w A0 l0.length l0) (hc0 : l0.length ≤ c0) (h : wire_ReadFixed.f k l0 a1 a2 = some (r1, r2, r3)) :
    Calls Tryd.prog 71 #[.slice A0 l0.length c0, .int .i64 a1, .int .i64 a2] w fun e w' => e = .returned (.tuple #[.int .u64 r1, .int .i64 r2, .int .i64 r3]) ∧ Drawn0 w w' := by
  have HR0 := Aside0.mk hr0
  have HC0 := Aside0.mk hc0
  clear hr0 hc0
  have H : (if a1 < 0 then (wire_ReadFixed.j0 k l0 a1 a2 true) else (if a1 > (l0.length : Int) then (wire_ReadFixed.j0 k l0 a1 a2 true) else (if a2 < 1 then (wire_ReadFixed.j0 k l0 a1 a2 true) else (wire_ReadFixed.j0 k l0 a1 a2 (decide (a2 > 8)))))) = some (r1, r2, r3) := h
  clear h
  have HC4 := Aside0.mk H
  clear H
  go_enter Tryd.func71, Tryd.ntmps71
  go_upto_region 1 with (fail)
  go_cut [11] (fun v11 wc => ∃ (kq : Nat) (x11_3 : Bool), v11 = .bool x11_3 ∧ Aside0 (wire_ReadFixed.j0 kq l0 a1 a2 x11_3 = some (r1, r2, r3)) ∧ Aside0 (kq ≤ k) ∧ Drawn0 w wc)
  case first =>
    have H := HC4.out
    clear HC4
    by_cases c5 : a1 < 0
    · rw [if_pos c5] at H
      have c5b0 : decide (a1 < 0) = true := decide_eq_true c5
      clear c5
      (first | rw [c5b0] | (simp only [i64_w, i32_w]; rw [c5b0]) | skip)
      have H' := Aside0.mk H
      clear H
      go_wp2
      go_meet
      case rel => exact ⟨_, (true), (by first | rfl | (simp; done) | (simp [*]; done)), H', ⟨by first | omega | exact Nat.le_refl _⟩, by repeat (first | exact Drawn0.refl _ | apply Drawn0.step)⟩
    · rw [if_neg c5] at H
      have c5b0 : decide (a1 < 0) = false := decide_eq_false c5
      clear c5
      (first | rw [c5b0] | (simp only [i64_w, i32_w]; rw [c5b0]) | skip)
      by_cases c6 : a1 > (l0.length : Int)
      · rw [if_pos c6] at H
        have c6b0 : decide ((l0.length : Int) < a1) = true := decide_eq_true c6
        clear c6
        have H' := Aside0.mk H
        clear H
        go_wp2
        go_meet
        case rel => exact ⟨_, (true), (by first | rfl | (simp; done) | (simp [*]; done)), H', ⟨by first | omega | exact Nat.le_refl _⟩, by repeat (first | exact Drawn0.refl _ | apply Drawn0.step)⟩
      · rw [if_neg c6] at H
        have c6b0 : decide ((l0.length : Int) < a1) = false := decide_eq_false c6
        clear c6
        by_cases c7 : a2 < 1
        · rw [if_pos c7] at H
          have c7b0 : decide (a2 < 1) = true := decide_eq_true c7
          clear c7
          have H' := Aside0.mk H
          clear H
          go_wp2
          go_meet
          case rel => exact ⟨_, (true), (by first | rfl | (simp; done) | (simp [*]; done)), H', ⟨by first | omega | exact Nat.le_refl _⟩, by repeat (first | exact Drawn0.refl _ | apply Drawn0.step)⟩
        · rw [if_neg c7] at H
          have c7b0 : decide (a2 < 1) = false := decide_eq_false c7
          clear c7
          have H' := Aside0.mk H
          clear H
          go_wp2
          go_meet
          case rel => exact ⟨_, (decide (a2 > 8)), (by first | rfl | (simp; done) | (simp [*]; done)), H', ⟨by first | omega | exact Nat.le_refl _⟩, by repeat (first | exact Drawn0.refl _ | apply Drawn0.step)⟩
  case rest =>
    clear HC4
    try clear p2
    try clear c5
    try clear c5b0
    try clear c6
    try clear c6b0
    try clear c7
    try clear c7b0
    obtain ⟨kq, x11_3, rfl, HA, HJ3, ⟨mc3, rfl⟩⟩ := hcut
    cases kq with
    | zero => exact absurd HA.out (by simp [wire_ReadFixed.j0])
    | succ kj3 =>
      have H := HA.out
      clear HA
      simp only [wire_ReadFixed.j0] at H
      by_cases c8 : x11_3 = true
      · subst c8
        have H1 : (some (0, 0, 1)) = some (r1, r2, r3) := by rw [if_pos rfl] at H; exact H
        clear H
        have H := H1
        clear H1
        simp only [Option.some.injEq, Prod.mk.injEq] at H
        obtain ⟨rfl, rfl, rfl⟩ := H
        go_wp2
        go_ret3
        exact ⟨by first | rfl | (simp; done) | (simp [*]; done), by repeat (first | exact Drawn0.refl _ | apply Drawn0.step)⟩
      · replace c8 := Bool.eq_false_iff.mpr c8
        subst c8
        have H1 : (if (wrap64 ((l0.length : Int) - a1)) < a2 then (some (0, 0, 10)) else (wire_ReadFixed.l0 kj3 l0 a1 a2 0 (wrap64 (a2 - 1)))) = some (r1, r2, r3) := by rw [if_neg (show ¬ (false = true) by decide)] at H; exact H
        clear H
        have H := H1
        clear H1
        by_cases c9 : (wrap64 ((l0.length : Int) - a1)) < a2
        · rw [if_pos c9] at H
          have c9b0 : decide ((wrap64 ((l0.length : Int) - a1)) < a2) = true := decide_eq_true c9
          clear c9
          simp only [Option.some.injEq, Prod.mk.injEq] at H
          obtain ⟨rfl, rfl, rfl⟩ := H
          go_wp2
          go_ret3
          exact ⟨by first | rfl | (simp; done) | (simp [*]; done), by repeat (first | exact Drawn0.refl _ | apply Drawn0.step)⟩
        · rw [if_neg c9] at H
          have c9b0 : decide ((wrap64 ((l0.length : Int) - a1)) < a2) = false := decide_eq_false c9
          clear c9
          have H' := Aside0.mk H
          clear H
          go_wp2
          go_loopg [9, 10] kj3 (fun kq v9 v10 w' => ∃ (x9_2 : Int) (x10_2 : Int), v9 = .int .u64 x9_2 ∧ v10 = .int .i64 x10_2 ∧ Aside0 (wire_ReadFixed.l0 kq l0 a1 a2 x9_2 x10_2 = some (r1, r2, r3)) ∧ Aside0 (kq ≤ kj3) ∧ Drawn0 w w')
          case atStart => exact ⟨(0), (wrap64 (a2 - 1)), (by first | rfl | (simp; done) | (simp [*]; done)), (by first | rfl | (simp; done) | (simp [*]; done)), H', ⟨Nat.le_refl _⟩, by repeat (first | exact Drawn0.refl _ | apply Drawn0.step)⟩
          case round =>
            clear H'
            try clear p2
            try clear c3
            try clear c5
            try clear c5b0
            try clear c6
            try clear c6b0
            try clear p6
            try clear c7
            try clear c7b0
            try clear c8
            try clear c9
            try clear c9b0
            try clear p2
            obtain ⟨x9_2, x10_2, rfl, rfl, HA, HK2, ⟨m2, rfl⟩⟩ := hrel
            cases gk with
            | zero => exact absurd HA.out (by simp [wire_ReadFixed.l0])
            | succ k2 =>
              have H := HA.out
              clear HA
              simp only [wire_ReadFixed.l0] at H
              by_cases c10 : x10_2 ≥ 0
              · rw [if_pos c10] at H
                have c10b0 : decide (0 ≤ x10_2) = true := decide_eq_true c10
                clear c10
                obtain ⟨ji11, hji11⟩ : ∃ j_ : Int, (wrap64 (a1 + x10_2)) = j_ := ⟨_, rfl⟩
                replace H : (if 0 ≤ (ji11) then (if (ji11) < (l0.length : Int) then (wire_ReadFixed.l0 k2 l0 a1 a2 (Go.bits .or .u64 (IntKind.u64.wrap (x9_2 * 256)) (IntKind.u64.wrap (rd l0 (ji11)))) (wrap64 (x10_2 - 1))) else (none)) else (none)) = some (r1, r2, r3) := by first | (rw [hji11] at H; exact H) | (simp only [hji11] at H ⊢; exact H)
                have hji11w : (IntKind.i64.wrap (a1 + x10_2)) = ji11 := (i64_w _).trans hji11
                by_cases c12 : 0 ≤ (ji11)
                · rw [if_pos c12] at H
                  have c12b0 : decide (0 ≤ (ji11)) = true := decide_eq_true c12
                  clear c12
                  by_cases c13 : (ji11) < (l0.length : Int)
                  · rw [if_pos c13] at H
                    have c13b0 : decide ((ji11) < (l0.length : Int)) = true := decide_eq_true c13
                    clear c13
                    have H' := Aside0.mk H
                    clear H
                    have p120 : 0 ≤ ((ji11) : Int) := of_decide_eq_true (by first | (with_reducible assumption) | assumption)
                    have q120 : (ji11) < (l0.length : Int) := of_decide_eq_true (by first | (with_reducible assumption) | assumption)
                    obtain ⟨ad120, e120, hx120_0⟩ := Kd.at_int HR0.out (ji11) p120 q120
                    cases e120
                    replace p120 := eq_true p120
                    replace q120 := eq_true q120
                    go_wp2
                    go_roundg k2
                    case measure => have := HJ3.out; have := HK2.out; omega
                    case rel => exact ⟨(Go.bits .or .u64 (IntKind.u64.wrap (x9_2 * 256)) (IntKind.u64.wrap (rd l0 (ji11)))), (wrap64 (x10_2 - 1)), (by first | rfl | (simp; done) | (simp only [← hji11] <;> (first | rfl | simp)) | (simp [*]; done)), (by first | rfl | (simp; done) | (simp [*]; done)), H', ⟨by have := HJ3.out; have := HK2.out; omega⟩, by repeat (first | exact Drawn0.refl _ | apply Drawn0.step)⟩
                  · rw [if_neg c13] at H
                    exact absurd H (by simp)
                · rw [if_neg c12] at H
                  exact absurd H (by simp)
              · rw [if_neg c10] at H
                have c10b0 : decide (0 ≤ x10_2) = false := decide_eq_false c10
                clear c10
                simp only [Option.some.injEq, Prod.mk.injEq] at H
                obtain ⟨rfl, rfl, rfl⟩ := H
                go_wp2
                go_ret3
                exact ⟨by first | rfl | (simp; done) | (simp [*]; done), by repeat (first | exact Drawn0.refl _ | apply Drawn0.step)⟩
def kilnref18_read.l0 : Nat → List Int → Int → Int → Int → Option (Int)
  | 0, _, _, _, _ => none
  | k + 1, x0, x1, x7, x8 => if x8 ≥ 0 then (if 0 ≤ (wrap64 (x1 + x8)) then (if (wrap64 (x1 + x8)) < (x0.length : Int) then (kilnref18_read.l0 k x0 x1 (Go.bits .or .i64 (wrap64 (x7 * 256)) (wrap64 (rd x0 (wrap64 (x1 + x8))))) (wrap64 (x8 - 1))) else (none)) else (none)) else (some x7)
def kilnref18_read.f (k : Nat) (l0 : List Int) (a1 : Int) (a2 : Int) : Option (Int) := kilnref18_read.l0 k l0 a1 0 (wrap64 (a2 - 1))
theorem kilnref18_read.mono_l : ∀ k, (∀ y0 y1 y2 y3, LeO (kilnref18_read.l0 k y0 y1 y2 y3) (kilnref18_read.l0 (k + 1) y0 y1 y2 y3))
  | 0 => fun _ _ _ _ r h => by simp [kilnref18_read.l0] at h
  | k + 1 => by
    have ih0 := kilnref18_read.mono_l k
    · intro y0 y1 y2 y3
      unfold kilnref18_read.l0
      repeat' first
      | (with_reducible exact ih0 _ _ _ _)
      | (with_reducible exact LeO.refl _)
      | (with_reducible exact LeO.none _)
      | (with_reducible refine LeO.ite ?_ ?_)
      | (with_reducible refine LeO.bind ?_ (fun _ => ?_))
      | exact ih0 _ _ _ _
      | exact LeO.none _
      | refine LeO.ite ?_ ?_
      | refine LeO.bind ?_ (fun _ => ?_)
theorem kilnref18_read.mono : ∀ a0 a1 a2 k, LeO (kilnref18_read.f k a0 a1 a2) (kilnref18_read.f (k + 1) a0 a1 a2) := by
  intro a0 a1 a2 k
  have ih0 := kilnref18_read.mono_l k
  unfold kilnref18_read.f
  repeat' first
      | (with_reducible exact ih0 _ _ _ _)
      | (with_reducible exact LeO.refl _)
      | (with_reducible exact LeO.none _)
      | (with_reducible refine LeO.ite ?_ ?_)
      | (with_reducible refine LeO.bind ?_ (fun _ => ?_))
      | exact ih0 _ _ _ _
      | exact LeO.none _
      | refine LeO.ite ?_ ?_
      | refine LeO.bind ?_ (fun _ => ?_)
set_option maxHeartbeats 8000000 in
set_option maxRecDepth 100000 in
theorem kilnref18_read.calls (k : Nat) (A0 : Option Addr) (c0 : Nat) (l0 : List Int) (a1 : Int) (a2 : Int) (r : Int) (w : World) (hr0 : Kd.C (Kd.int .u8) w A0 l0.length l0) (hc0 : l0.length ≤ c0) (h : kilnref18_read.f k l0 a1 a2 = some r) :
    Calls Tryd.prog 67 #[.slice A0 l0.length c0, .int .i64 a1, .int .i64 a2] w fun e w' => e = .returned (.int .i64 r) ∧ Drawn0 w w' := by
  have HR0 := Aside0.mk hr0
  have HC0 := Aside0.mk hc0
  clear hr0 hc0
  have H : (kilnref18_read.l0 k l0 a1 0 (wrap64 (a2 - 1))) = some r := h
  clear h
  have H' := Aside0.mk H
  clear H
  go_enter Tryd.func67, Tryd.ntmps67
  go_wp2
  go_loopg [7, 8] k (fun kq v7 v8 w' => ∃ (x7_1 : Int) (x8_1 : Int), v7 = .int .i64 x7_1 ∧ v8 = .int .i64 x8_1 ∧ Aside0 (kilnref18_read.l0 kq l0 a1 x7_1 x8_1 = some r) ∧ Aside0 (kq ≤ k) ∧ Drawn0 w w')
  case atStart => exact ⟨(0), (wrap64 (a2 - 1)), (by first | rfl | (simp; done) | (simp [*]; done)), (by first | rfl | (simp; done) | (simp [*]; done)), H', ⟨Nat.le_refl _⟩, by repeat (first | exact Drawn0.refl _ | apply Drawn0.step)⟩
  case round =>
    clear H'
    try clear p2
    obtain ⟨x7_1, x8_1, rfl, rfl, HA, HK1, ⟨m1, rfl⟩⟩ := hrel
    cases gk with
    | zero => exact absurd HA.out (by simp [kilnref18_read.l0])
    | succ k1 =>
      have H := HA.out
      clear HA
      simp only [kilnref18_read.l0] at H
      by_cases c4 : x8_1 ≥ 0
      · rw [if_pos c4] at H
        have c4b0 : decide (0 ≤ x8_1) = true := decide_eq_true c4
        clear c4
        obtain ⟨ji5, hji5⟩ : ∃ j_ : Int, (wrap64 (a1 + x8_1)) = j_ := ⟨_, rfl⟩
        replace H : (if 0 ≤ (ji5) then (if (ji5) < (l0.length : Int) then (kilnref18_read.l0 k1 l0 a1 (Go.bits .or .i64 (wrap64 (x7_1 * 256)) (wrap64 (rd l0 (ji5)))) (wrap64 (x8_1 - 1))) else (none)) else (none)) = some r := by first | (rw [hji5] at H; exact H) | (simp only [hji5] at H ⊢; exact H)
        have hji5w : (IntKind.i64.wrap (a1 + x8_1)) = ji5 := (i64_w _).trans hji5
        by_cases c6 : 0 ≤ (ji5)
        · rw [if_pos c6] at H
          have c6b0 : decide (0 ≤ (ji5)) = true := decide_eq_true c6
          clear c6
          by_cases c7 : (ji5) < (l0.length : Int)
          · rw [if_pos c7] at H
            have c7b0 : decide ((ji5) < (l0.length : Int)) = true := decide_eq_true c7
            clear c7
            have H' := Aside0.mk H
            clear H
            have p127 : 0 ≤ ((ji5) : Int) := of_decide_eq_true (by first | (with_reducible assumption) | assumption)
            have q127 : (ji5) < (l0.length : Int) := of_decide_eq_true (by first | (with_reducible assumption) | assumption)
            obtain ⟨ad127, e127, hx127_0⟩ := Kd.at_int HR0.out (ji5) p127 q127
            cases e127
            replace p127 := eq_true p127
            replace q127 := eq_true q127
            go_wp2
            go_roundg k1
            case measure => have := HK1.out; omega
            case rel => exact ⟨(Go.bits .or .i64 (wrap64 (x7_1 * 256)) (wrap64 (rd l0 (ji5)))), (wrap64 (x8_1 - 1)), (by first | rfl | (simp; done) | (simp only [← hji5] <;> (first | rfl | simp)) | (simp [*]; done)), (by first | rfl | (simp; done) | (simp [*]; done)), H', ⟨by have := HK1.out; omega⟩, by repeat (first | exact Drawn0.refl _ | apply Drawn0.step)⟩
          · rw [if_neg c7] at H
            exact absurd H (by simp)
        · rw [if_neg c6] at H
          exact absurd H (by simp)
      · rw [if_neg c4] at H
        have c4b0 : decide (0 ≤ x8_1) = false := decide_eq_false c4
        clear c4
        obtain rfl := Option.some.inj H
        go_wp2
        go_ret
        exact ⟨by first | rfl | (simp; done) | (simp [*]; done), by repeat (first | exact Drawn0.refl _ | apply Drawn0.step)⟩
end Go.Proofs.YtaflofcnjakaaaaDoor.P

namespace Go.Proofs.YtaflofcnjakaaaaDoor.Z
open Go.Proofs.YtaflofcnjakaaaaDoor.Wr Go.Proofs.YtaflofcnjakaaaaDoor.M
open Go.RowKit Go.Proofs.YtaflofcnjakaaaaDoorW.PrintWords Go.Proofs.YtaflofcnjakaaaaDoorW.PrintLast Go.Proofs.YtaflofcnjakaaaaDoorW.PrintMore
attribute [local go_sem] max2_int min2_int max_two min_two max_three min_three max_four min_four   -- for this text's walks alone
set_option linter.unusedVariables false
set_option linter.unusedSimpArgs false
def errW : Option Int → Value
  | none => .nilIface
  | some c => .iface 0 (.int .i64 c)
theorem errW_none : errW none = .nilIface := rfl
theorem errW_some (c : Int) : errW (some c) = .iface 0 (.int .i64 c) := rfl
theorem info5 : (Tryd.prog.info? 5).map (fun i => (i.zero, i.size, i.bytes)) = some (some (.int .u8 0), 1, 1) := by kernel_rfl
theorem info106 : (Tryd.prog.info? 106).map (fun i => (i.zero, i.size, i.bytes)) = some (some (.agg #[(.int .i64 0), (.slice none 0 0)]), 2, 32) := by kernel_rfl
def rd_L1 (xs : List (List Int)) (i : Int) : (List Int) := xs.getD i.toNat ([] : List Int)
theorem at_L1 {w : World} {A : Option Addr} {n : Nat} {xs : List (List Int)} (h : Kd.C (Kd.slice 5 (Kd.int .u8)) w A n xs) (i : Int) (h0 : 0 ≤ i) (h1 : i < n) : ∃ ad A0 c0, A = some ad ∧ w.cell? (ad.add i.toNat) = some (.slice A0 (rd_L1 xs i).length c0) ∧ (rd_L1 xs i).length ≤ c0 ∧ (Kd.int .u8).C w A0 (rd_L1 xs i).length (rd_L1 xs i) := by
  obtain ⟨ad, c, e, _, hK, hc0⟩ := Kd.C_get h ([] : List Int) i h0 h1
  have hc : ∀ j u, c[j]? = some u → w.cell? (ad.add (i.toNat * 1 + j)) = some u := hc0
  obtain ⟨A0, c0, rfl, l0, g0⟩ := hK
  exact ⟨ad, A0, c0, e, by have hq := hc 0 _ rfl; rwa [Nat.mul_one, Nat.add_zero] at hq, l0, g0⟩
structure S106 where
  f0 : Int
  f1 : (List Int)
def z106 : S106 := ⟨(0 : Int), ([] : List Int)⟩
def k106 : Kd S106 := Kd.iso (Kd.pair (Kd.int .i64) (Kd.slice 5 (Kd.int .u8))) (fun x : S106 => (x.f0, x.f1))
theorem k106_heap : Kd.Heap k106 := Kd.heap_iso _ (Kd.heap_pair (Kd.heap_int .i64) (Kd.heap_slice 5 (Kd.heap_int .u8)))
theorem k106_open {w : World} {x : S106} {cs : List Value} (h : k106.K w x cs) : ∃ A1 c1, cs = [.int .i64 x.f0, .slice A1 x.f1.length c1] ∧ x.f1.length ≤ c1 ∧ (Kd.int .u8).C w A1 x.f1.length x.f1 := by
  obtain ⟨_, _, rfl, rfl, ⟨A1, c1, rfl, l1, g1⟩⟩ := h
  exact ⟨A1, c1, rfl, l1, g1⟩
theorem k106_mk (w : World) (x : S106) {A1 : Option Addr} {c1 : Nat} (l1 : x.f1.length ≤ c1) (g1 : (Kd.int .u8).C w A1 x.f1.length x.f1) : k106.K w x [.int .i64 x.f0, .slice A1 x.f1.length c1] := ⟨[.int .i64 x.f0], [.slice A1 x.f1.length c1], rfl, rfl, ⟨A1, c1, rfl, l1, g1⟩⟩
theorem k106_openF {W : World} {ok : Nat → Prop} {x : S106} {cs : List Value} (h : Kd.FK k106 W ok x cs) : ∃ A1 c1, cs = [.int .i64 x.f0, .slice A1 x.f1.length c1] ∧ x.f1.length ≤ c1 ∧ Kd.F (Kd.int .u8) W ok A1 x.f1.length x.f1 := by
  obtain ⟨A1, c1, rfl, l1, _⟩ := k106_open (Kd.FK_now h)
  exact ⟨A1, c1, rfl, l1, (fun W' hW => by obtain ⟨A1_, c1_, he, l1_, g1_⟩ := k106_open (h W' hW); injection (Option.some.inj (show some (Value.slice A1 x.f1.length c1) = some (Value.slice A1_ x.f1.length c1_) from congrArg (fun l => l[1]?) he)) with ha_ _ _; rw [ha_]; exact g1_)⟩
theorem k106_mkF (W : World) (ok : Nat → Prop) (x : S106) {A1 : Option Addr} {c1 : Nat} (l1 : x.f1.length ≤ c1) (g1 : Kd.F (Kd.int .u8) W ok A1 x.f1.length x.f1) : Kd.FK k106 W ok x [.int .i64 x.f0, .slice A1 x.f1.length c1] := fun W2 hW => k106_mk W2 x l1 (g1 W2 hW)
def rd_T106 (xs : List S106) (i : Int) : S106 := xs.getD i.toNat z106
theorem at_T106 {w : World} {A : Option Addr} {n : Nat} {xs : List S106} (h : Kd.C k106 w A n xs) (i : Int) (h0 : 0 ≤ i) (h1 : i < n) : ∃ ad A1 c1, A = some ad ∧ w.cell? (ad.add (i.toNat * 2)) = some (.int .i64 (rd_T106 xs i).f0) ∧ w.cell? ⟨(ad.add (i.toNat * 2)).block, (ad.add (i.toNat * 2)).off + 1, none⟩ = some (.slice A1 (rd_T106 xs i).f1.length c1) ∧ (rd_T106 xs i).f1.length ≤ c1 ∧ (Kd.int .u8).C w A1 (rd_T106 xs i).f1.length (rd_T106 xs i).f1 := by
  obtain ⟨ad, c, e, _, hK, hc0⟩ := Kd.C_get h z106 i h0 h1
  have hc : ∀ j u, c[j]? = some u → w.cell? (ad.add (i.toNat * 2 + j)) = some u := hc0
  obtain ⟨A1, c1, rfl, l1, g1⟩ := k106_open hK
  exact ⟨ad, A1, c1, e, hc 0 _ rfl, by rw [← add_field _ _ 1 (by omega)]; exact hc 1 _ rfl, l1, g1⟩
end Go.Proofs.YtaflofcnjakaaaaDoor.Z
