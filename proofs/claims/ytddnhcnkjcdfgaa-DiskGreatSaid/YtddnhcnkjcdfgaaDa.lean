import Derived.Test.YtddnhcnkjcdfgaaProg
import Derived.Below
import Derived.Deep.Draws
import Derived.Deep.AppendLies
import Derived.Maps.AppendAt
import Derived.OwnWalk
import Derived.Laws.BytesArg
import Derived.Laws.MakeOwn
import Derived.Laws.OwnMore
import Derived.Deep.OwnRows
import Derived.Tactics
import Derived.Lib.ConvBytes
import Derived.Laws.Slices
import Derived.WalkKit
import Derived.KernelRfl
import Derived.RowKit3
import Derived.Deep.LoopGhost
import Derived.Deep.QuietTactic
import Derived.BigQuiet
import Derived.WideLaws
import Derived.Deep.DeepCutAuto
import Derived.Deep.CutBlock
import Derived.Deep.RegionHeld3
import Derived.Laws.Rows
import Derived.Lib.AppendStr
import Derived.ArgAppend
import Derived.Laws.IdiomCopy
import Derived.OrdersHeld
import Derived.Laws.BitsLemmas
import Derived.RowKit
import Derived.Test.YtddnhcnkjcdfgaaWWords
import Derived.Test.YtddnhcnkjcdfgaaWLast
import Derived.Test.YtddnhcnkjcdfgaaWTab
import Derived.Test.YtddnhcnkjcdfgaaWFour
import Derived.Test.YtddnhcnkjcdfgaaWQPut
import Derived.Test.YtddnhcnkjcdfgaaWApart
import Derived.Test.YtddnhcnkjcdfgaaWArr
import Derived.Test.YtddnhcnkjcdfgaaWZeros
import Derived.Test.YtddnhcnkjcdfgaaWFoot
import Derived.Test.YtddnhcnkjcdfgaaWKept
import Derived.Test.YtddnhcnkjcdfgaaWShare
import Derived.Test.YtddnhcnkjcdfgaaWN
import Derived.Test.YtddnhcnkjcdfgaaWFootNe
import Derived.Test.YtddnhcnkjcdfgaaWAt
import Derived.Test.YtddnhcnkjcdfgaaWEqStruct
import Derived.Test.YtddnhcnkjcdfgaaWRepsOne
import Derived.Test.YtddnhcnkjcdfgaaWInv
import Derived.Test.YtddnhcnkjcdfgaaWInvWords
import Derived.Test.YtddnhcnkjcdfgaaWGuard
import Derived.Test.YtddnhcnkjcdfgaaWNEv
import Derived.Test.YtddnhcnkjcdfgaaWMore
import Derived.Laws.BitsAllLaws
import Derived.StillTailTactics
import Derived.Deep.WholeRow
import Derived.Maps.RangeWalk
import Derived.Maps.OwnOps
namespace Go.Proofs.Ytddnhcnkjcdfgaa.M
open Go.RowKit Go.Maps Go.Proofs.YtddnhcnkjcdfgaaW.PrintWords Go.Proofs.YtddnhcnkjcdfgaaW.PrintLast Go.Proofs.YtddnhcnkjcdfgaaW.PrintMore
set_option linter.unusedVariables false
set_option linter.unusedSimpArgs false
/-! Disks, as they lie in memory. -/
/-- A sector's bytes. -/
def sec : Kd (List Int) where
  sz := 512
  E := []
  K := fun _ l cs => l.length = 512 ∧ cs = nums .u8 l
  M := fun _ _ _ l cs => l.length = 512 ∧ cs = nums .u8 l
  K_len := by
    rintro w x cs ⟨h, rfl⟩
    rw [nums_length, h]
  K_one := by
    rintro w x cs ⟨h, rfl⟩ u hu
    obtain ⟨y, _, rfl⟩ := List.mem_map.1 hu
    rfl
  K_below := fun _ h => h
  K_of_M := fun h => h
  M_mono := fun _ h => h
  M_bound := fun h => h
  M_move := fun _ h => h
  M_lower := fun _ h => h
/-- A row of sectors. -/
def Rs (w : World) (base : Nat) (v : Value) (l : List (List Int)) : Prop := Kd.R sec 91 w base (fun k => v.ownBlock = some k) v l
/-- Blocks outside F are as they were. -/
structure Chg (F : Nat → Prop) (w w' : World) : Prop where
  os : w'.os = w.os
  tape : w'.tape = w.tape
  output : w'.output = w.output
  size : w.heap.size ≤ w'.heap.size
  block : ∀ b, b < w.heap.size → ¬ F b → w'.heap[b]? = w.heap[b]?
theorem Chg.refl (F : Nat → Prop) (w : World) : Chg F w w := ⟨rfl, rfl, rfl, Nat.le_refl _, fun _ _ _ => rfl⟩
theorem Chg.trans {F G : Nat → Prop} {a b c : World} (h : Chg F a b) (k : Chg G b c) (hg : ∀ x, G x → F x ∨ a.heap.size ≤ x) : Chg F a c :=
  ⟨k.os.trans h.os, k.tape.trans h.tape, k.output.trans h.output, Nat.le_trans h.size k.size, fun x hx hn => (k.block x (Nat.lt_of_lt_of_le hx h.size) (fun hG => by rcases hg x hG with h1 | h1; exact hn h1; omega)).trans (h.block x hx hn)⟩
theorem Chg.mono {F G : Nat → Prop} {a b : World} (h : Chg F a b) (hg : ∀ x, F x → G x) : Chg G a b := ⟨h.os, h.tape, h.output, h.size, fun x hx hn => h.block x hx (fun hF => hn (hg x hF))⟩
theorem Chg.of_below {F : Nat → Prop} {a b : World} (h : Below a.heap.size a b) : Chg F a b := ⟨h.os, h.tape, h.output, h.size, fun x hx _ => h.block x hx⟩
theorem Chg.of_grown {F : Nat → Prop} {a b : World} {row : Option Nat} (h : a.grownBy b row) (hr : ∀ k, row = some k → F k) : Chg F a b := ⟨h.os, h.tape, h.output, h.size, fun x hx hn => h.block x hx (fun e => hn (hr x e.symm))⟩
theorem Chg.below {F : Nat → Prop} {w0 a b : World} {B : Nat} (h : Below B w0 a) (k : Chg F a b) (hB : B ≤ a.heap.size) (hF : ∀ x, F x → B ≤ x) : Below B w0 b :=
  ⟨k.os.trans h.os, k.tape.trans h.tape, k.output.trans h.output, Nat.le_trans h.size k.size, fun x hx => (k.block x (Nat.lt_of_lt_of_le hx hB) (fun hf => by have := hF x hf; omega)).trans (h.block x hx)⟩
theorem Chg.setCell {F : Nat → Prop} {a b : World} (h : Chg F a b) {g : Nat} (hg : F g) (j : Nat) (v : Value) : Chg F a (b.setCell ⟨g, j, none⟩ v) :=
  ⟨h.os, h.tape, h.output, by simpa [World.setCell] using h.size, fun x hx hn => (Below.heap_setCell b ⟨g, j, none⟩ v x (fun e => hn (e ▸ hg))).trans (h.block x hx hn)⟩
theorem Rs.step {w w1 : World} {base : Nat} {v : Value} {l : List (List Int)} (h : Rs w base v l) (hm : ∀ k, v.ownBlock = some k → k < w.heap.size → w1.heap[k]? = w.heap[k]?) : Rs w1 base v l := Kd.R_step h hm
theorem Rs.chg {F : Nat → Prop} {w w1 : World} {base : Nat} {v : Value} {l : List (List Int)} (h : Rs w base v l) (hc : Chg F w w1) (hF : ∀ k, v.ownBlock = some k → ¬ F k) : Rs w1 base v l := h.step (fun k hk hlt => hc.block k hlt (hF k hk))
theorem Rs.below {w w1 : World} {base : Nat} {v : Value} {l : List (List Int)} (h : Rs w base v l) (hb : Below w.heap.size w w1) : Rs w1 base v l := Kd.R_below h hb
/-- Any row of sectors is of this form. -/
theorem Rs.of {w : World} {base : Nat} {ok : Nat → Prop} {v : Value} {l : List (List Int)} (h : Kd.R sec 91 w base ok v l) : Rs w base v l :=
  ⟨fun k hk => hk, h.2.imp_ (fun _ _ hp => hp)⟩
theorem Rs.typed {w : World} {base : Nat} {v : Value} {l : List (List Int)} (h : Rs w base v l) {k : Nat} (hk : v.ownBlock = some k) : base ≤ k ∧ k < w.heap.size ∧ ∃ cs, w.heap[k]? = some (.cells cs 91 (0, 0)) :=
  ⟨Kd.R_base h k hk, Kd.R_lt h k hk, Kd.R_typed h k hk⟩
theorem Rs.each {w : World} {base : Nat} {v : Value} {l : List (List Int)} (h : Rs w base v l) : ∀ x ∈ l, x.length = 512 := by
  intro x hx
  obtain ⟨i, hi⟩ := List.getElem?_of_mem hx
  obtain ⟨_, inner, _, hr⟩ := h
  exact (hr.2 i x hi).1
/-- A map whose elements are read as they are. -/
def asIs (v : Value) : Option (DataW Value × List MemPlace) := some (.held v, [])
/-- What a disk holds. -/
structure DS where
  n : Nat
  L : List (List Int)
  W : Nat → List (List Int)
  c : Nat
  r : Int
  wr : Int
  fl : Int
def Fp (g lb mb : Nat) (f : Nat → Value) (n : Nat) (b : Nat) : Prop := b = g ∨ b = lb ∨ b = mb ∨ ∃ i, i < n ∧ (f i).ownBlock = some b
structure DkIn (w : World) (base g : Nat) (s : DS) (lb cp mb : Nat) (f : Nat → Value) (k : Nat) (D : DataW Value) : Prop where
  hd : w.heap[g]? = some (.cells #[.slice (some ⟨lb, 0, none⟩) s.n cp, .map (some mb), .int .i64 s.r, .int .i64 s.wr, .int .i64 s.fl] 89 (0, 0))
  la : Rs w base (.slice (some ⟨lb, 0, none⟩) s.n cp) s.L
  mp : w.ownsMap Try.prog 3 asIs mb k D
  kc : k ≤ s.c
  at_ : ∀ i : Nat, i < s.n → D.atKey (.int .i64 i) (.held (.slice none 0 0)) = .held (f i)
  ks : ∀ kl, Maps.has D kl = true → ∃ i : Nat, i < s.n ∧ kl = .int .i64 i ∧ s.W i ≠ []
  rows : ∀ i, i < s.n → Rs w base (f i) (s.W i)
  wl : ∀ i, i < s.n → (s.W i).length ≤ s.c
  sep : ∀ i j b, i < s.n → j < s.n → (f i).ownBlock = some b → (f j).ownBlock = some b → i = j
  sepl : ∀ i, i < s.n → (f i).ownBlock ≠ some lb
  gb : base ≤ g
  mbb : base ≤ mb
  n2 : 2 ≤ s.n
  nm : s.n ≤ 65536
/-- A disk lies in block g; F: all its blocks. -/
def DkAt (w : World) (base g : Nat) (F : Nat → Prop) (s : DS) : Prop := ∃ lb cp mb f k D, DkIn w base g s lb cp mb f k D ∧ ∀ b, F b ↔ Fp g lb mb f s.n b
section
variable {w w' : World} {base g lb cp mb k : Nat} {F G : Nat → Prop} {s : DS} {f : Nat → Value} {D : DataW Value}
theorem DkIn.foot (h : DkIn w base g s lb cp mb f k D) (b : Nat) (hb : Fp g lb mb f s.n b) : base ≤ b ∧ b < w.heap.size := by
  rcases hb with rfl | rfl | rfl | ⟨i, hi, hb⟩
  · exact ⟨h.gb, blk_lt h.hd⟩
  · exact ⟨(h.la.typed rfl).1, (h.la.typed rfl).2.1⟩
  · exact ⟨h.mbb, h.mp.lt⟩
  · exact ⟨((h.rows i hi).typed hb).1, ((h.rows i hi).typed hb).2.1⟩
theorem DkIn.lbg (h : DkIn w base g s lb cp mb f k D) : lb ≠ g := by
  obtain ⟨cs, hc⟩ := (h.la.typed rfl).2.2
  exact blk_ne hc h.hd (by decide)
theorem DkIn.mbg (h : DkIn w base g s lb cp mb f k D) : mb ≠ g := by
  obtain ⟨es, ck, hb, _⟩ := h.mp
  intro e
  rw [e, h.hd] at hb
  cases hb
theorem DkIn.mbl (h : DkIn w base g s lb cp mb f k D) : mb ≠ lb := by
  obtain ⟨es, ck, hb, _⟩ := h.mp
  obtain ⟨cs, hc⟩ := (h.la.typed rfl).2.2
  intro e
  rw [e, hc] at hb
  cases hb
theorem DkIn.rowg (h : DkIn w base g s lb cp mb f k D) {i b : Nat} (hi : i < s.n) (hb : (f i).ownBlock = some b) : b ≠ g ∧ b ≠ mb ∧ b ≠ lb := by
  obtain ⟨cs, hc⟩ := ((h.rows i hi).typed hb).2.2
  refine ⟨blk_ne hc h.hd (by decide), ?_, fun e => h.sepl i hi (e ▸ hb)⟩
  obtain ⟨es, ck, hm, _⟩ := h.mp
  intro e
  rw [← e, hc] at hm
  cases hm
theorem DkIn.chg (h : DkIn w base g s lb cp mb f k D) (hc : Chg G w w') (hG : ∀ b, Fp g lb mb f s.n b → ¬ G b) : DkIn w' base g s lb cp mb f k D := by
  refine ⟨(hc.block g (blk_lt h.hd) (hG g (.inl rfl))).trans h.hd, h.la.chg hc (fun b hb => hG b (.inr (.inl (Option.some.inj hb).symm))), ?_, h.kc, h.at_, h.ks, fun i hi => (h.rows i hi).chg hc (fun b hb => hG b (.inr (.inr (.inr ⟨i, hi, hb⟩)))), h.wl, h.sep, h.sepl, h.gb, h.mbb, h.n2, h.nm⟩
  obtain ⟨es, ck, hb, r⟩ := h.mp
  exact ⟨es, ck, (hc.block mb (blk_lt hb) (hG mb (.inr (.inr (.inl rfl))))).trans hb, r⟩
theorem DkAt.chg (h : DkAt w base g F s) (hc : Chg G w w') (hG : ∀ b, F b → ¬ G b) : DkAt w' base g F s := by
  obtain ⟨lb, cp, mb, f, k, D, h1, h2⟩ := h
  exact ⟨lb, cp, mb, f, k, D, h1.chg hc (fun b hb => hG b ((h2 b).2 hb)), h2⟩
theorem DkAt.below (h : DkAt w base g F s) (hb : Below w.heap.size w w') : DkAt w' base g F s := h.chg (G := fun _ => False) (Chg.of_below hb) (fun _ _ => id)
theorem DkAt.foot (h : DkAt w base g F s) (b : Nat) (hb : F b) : base ≤ b ∧ b < w.heap.size := by
  obtain ⟨lb, cp, mb, f, k, D, h1, h2⟩ := h
  exact h1.foot b ((h2 b).1 hb)
/-- Blocks of another type are none of its. -/
theorem DkAt.typed (h : DkAt w base g F s) {b t : Nat} {cs : Array Value} {fr : Nat × Nat} (hb : w.heap[b]? = some (.cells cs t fr)) (h1 : t ≠ 89) (h2 : t ≠ 91) : ¬ F b := by
  obtain ⟨lb, cp, mb, f, k, D, h3, h4⟩ := h
  intro hF
  rcases (h4 b).1 hF with rfl | rfl | rfl | ⟨i, hi, hbi⟩
  · rw [h3.hd] at hb; injection hb with hb; injection hb with _ hb _; exact h1 hb.symm
  · obtain ⟨cs, hc⟩ := (h3.la.typed rfl).2.2
    rw [hc] at hb; injection hb with hb; injection hb with _ hb _; exact h2 hb.symm
  · obtain ⟨es, ck, hm, _⟩ := h3.mp
    rw [hm] at hb; cases hb
  · obtain ⟨cs, hc⟩ := ((h3.rows i hi).typed hbi).2.2
    rw [hc] at hb; injection hb with hb; injection hb with _ hb _; exact h2 hb.symm
theorem DkAt.n_le (h : DkAt w base g F s) : 2 ≤ s.n ∧ s.n ≤ 65536 := by
  obtain ⟨lb, cp, mb, f, k, D, h3, h4⟩ := h
  exact ⟨h3.n2, h3.nm⟩
theorem DkAt.lasts (h : DkAt w base g F s) : s.L.length = s.n ∧ ∀ x ∈ s.L, x.length = 512 := by
  obtain ⟨lb, cp, mb, f, k, D, h3, h4⟩ := h
  exact ⟨(Kd.R_reads' h3.la).1.symm, h3.la.each⟩
/-- The block that the pointer names is changed in its numbers alone. -/
theorem DkIn.acts (h : DkIn w base g s lb cp mb f k D) (j : Nat) (x : Int) (s' : DS) (hs : s'.n = s.n ∧ s'.L = s.L ∧ s'.W = s.W ∧ s'.c = s.c)
    (hj : #[Value.slice (some ⟨lb, 0, none⟩) s.n cp, .map (some mb), .int .i64 s.r, .int .i64 s.wr, .int .i64 s.fl].setIfInBounds j (.int .i64 x) = #[Value.slice (some ⟨lb, 0, none⟩) s.n cp, .map (some mb), .int .i64 s'.r, .int .i64 s'.wr, .int .i64 s'.fl]) :
    DkIn (w.setCell ⟨g, j, none⟩ (.int .i64 x)) base g s' lb cp mb f k D := by
  obtain ⟨e1, e2, e3, e4⟩ := hs
  have far : ∀ b, b ≠ g → (w.setCell ⟨g, j, none⟩ (.int .i64 x)).heap[b]? = w.heap[b]? := fun b hb => Below.heap_setCell w ⟨g, j, none⟩ _ b hb
  refine ⟨?_, ?_, ?_, by rw [e4]; exact h.kc, by rw [e1]; exact h.at_, by rw [e1, e3]; exact h.ks, ?_, by rw [e1, e3, e4]; exact h.wl, by rw [e1]; exact h.sep, by rw [e1]; exact h.sepl, h.gb, h.mbb, by rw [e1]; exact h.n2, by rw [e1]; exact h.nm⟩
  · rw [e1, ← hj]; exact blk_set h.hd j _
  · rw [e1, e2]; exact h.la.step (fun b hb _ => far b (by cases hb; exact h.lbg))
  · obtain ⟨es, ck, hb, r⟩ := h.mp
    exact ⟨es, ck, (far mb h.mbg).trans hb, r⟩
  · rw [e1, e3]; exact fun i hi => (h.rows i hi).step (fun b hb _ => far b (h.rowg hi hb).1)
end
end Go.Proofs.Ytddnhcnkjcdfgaa.M
