-- written by programs of this session; what nothing here names is left out
import Derived.Test.YtddnhcnkjcdfgaaPqZ0
import Derived.Test.YtddnhcnkjcdfgaaProg
import Derived.Below
import Derived.Deep.Draws
import Derived.Deep.AppendLies
import Derived.Maps.AppendAt
import Derived.OwnWalk
import Derived.Laws.BytesArg
import Derived.Laws.MakeOwn
import Derived.Laws.OwnMore
import Derived.Deep.OwnRows
import Derived.Tactics
import Derived.Lib.ConvBytes
import Derived.Laws.Slices
import Derived.WalkKit
import Derived.KernelRfl
import Derived.RowKit3
import Derived.Deep.LoopGhost
import Derived.Deep.QuietTactic
import Derived.BigQuiet
import Derived.WideLaws
import Derived.Deep.DeepCutAuto
import Derived.Deep.CutBlock
import Derived.Deep.RegionHeld3
import Derived.Laws.Rows
import Derived.Lib.AppendStr
import Derived.ArgAppend
import Derived.Laws.IdiomCopy
import Derived.OrdersHeld
import Derived.Laws.BitsLemmas
import Derived.RowKit
import Derived.Laws.BitsAllLaws
import Derived.StillTailTactics
import Derived.Deep.WholeRow
import Derived.Maps.RangeWalk
import Derived.Maps.OwnOps
import Derived.WalkSpells
import Derived.Deep.MidRow
import Derived.Great.BuildSlice
import Derived.Deep.DrawnRows
import Derived.Great.Walk
import Derived.Shelf.SlIterI.Nil
import Derived.Shelf.SortM.Plain
import Derived.Shelf.SortM.SortNone
import Derived.Ground.GgzProg
import Derived.Ground.SlgmProg
import Derived.Test.YtddnhcnkjcdfgaaRows
import Derived.ChangeSlices
import Derived.SizedLaws
import Derived.ChangeArms
namespace Go.Proofs.Ytddnhcnkjcdfgaa.M
open Go.RowKit Go.Maps Go.Proofs.YtddnhcnkjcdfgaaW.PrintWords Go.Proofs.YtddnhcnkjcdfgaaW.PrintLast Go.Proofs.YtddnhcnkjcdfgaaW.PrintMore
set_option linter.unusedVariables false
set_option linter.unusedSimpArgs false
def sec : Kd (List Int) where
  sz := 512
  E := []
  K := fun _ l cs => l.length = 512 ∧ cs = nums .u8 l
  M := fun _ _ _ l cs => l.length = 512 ∧ cs = nums .u8 l
  K_len := by
    rintro w x cs ⟨h, rfl⟩
    rw [nums_length, h]
  K_one := by
    rintro w x cs ⟨h, rfl⟩ u hu
    obtain ⟨y, _, rfl⟩ := List.mem_map.1 hu
    rfl
  K_below := fun _ h => h
  K_of_M := fun h => h
  M_mono := fun _ h => h
  M_bound := fun h => h
  M_move := fun _ h => h
  M_lower := fun _ h => h
def Rs (w : World) (base : Nat) (v : Value) (l : List (List Int)) : Prop := Kd.R sec 91 w base (fun k => v.ownBlock = some k) v l
structure Chg (F : Nat → Prop) (w w' : World) : Prop where
  os : w'.os = w.os
  tape : w'.tape = w.tape
  output : w'.output = w.output
  size : w.heap.size ≤ w'.heap.size
  block : ∀ b, b < w.heap.size → ¬ F b → w'.heap[b]? = w.heap[b]?
theorem Chg.refl (F : Nat → Prop) (w : World) : Chg F w w := ⟨rfl, rfl, rfl, Nat.le_refl _, fun _ _ _ => rfl⟩
theorem Chg.trans {F G : Nat → Prop} {a b c : World} (h : Chg F a b) (k : Chg G b c) (hg : ∀ x, G x → F x ∨ a.heap.size ≤ x) : Chg F a c :=
  ⟨k.os.trans h.os, k.tape.trans h.tape, k.output.trans h.output, Nat.le_trans h.size k.size, fun x hx hn => (k.block x (Nat.lt_of_lt_of_le hx h.size) (fun hG => by rcases hg x hG with h1 | h1; exact hn h1; omega)).trans (h.block x hx hn)⟩
theorem Chg.mono {F G : Nat → Prop} {a b : World} (h : Chg F a b) (hg : ∀ x, F x → G x) : Chg G a b := ⟨h.os, h.tape, h.output, h.size, fun x hx hn => h.block x hx (fun hF => hn (hg x hF))⟩
theorem Chg.of_below {F : Nat → Prop} {a b : World} (h : Below a.heap.size a b) : Chg F a b := ⟨h.os, h.tape, h.output, h.size, fun x hx _ => h.block x hx⟩
theorem Chg.of_grown {F : Nat → Prop} {a b : World} {row : Option Nat} (h : a.grownBy b row) (hr : ∀ k, row = some k → F k) : Chg F a b := ⟨h.os, h.tape, h.output, h.size, fun x hx hn => h.block x hx (fun e => hn (hr x e.symm))⟩
theorem Chg.below {F : Nat → Prop} {w0 a b : World} {B : Nat} (h : Below B w0 a) (k : Chg F a b) (hB : B ≤ a.heap.size) (hF : ∀ x, F x → B ≤ x) : Below B w0 b :=
  ⟨k.os.trans h.os, k.tape.trans h.tape, k.output.trans h.output, Nat.le_trans h.size k.size, fun x hx => (k.block x (Nat.lt_of_lt_of_le hx hB) (fun hf => by have := hF x hf; omega)).trans (h.block x hx)⟩
theorem Chg.setCell {F : Nat → Prop} {a b : World} (h : Chg F a b) {g : Nat} (hg : F g) (j : Nat) (v : Value) : Chg F a (b.setCell ⟨g, j, none⟩ v) :=
  ⟨h.os, h.tape, h.output, by simpa [World.setCell] using h.size, fun x hx hn => (Below.heap_setCell b ⟨g, j, none⟩ v x (fun e => hn (e ▸ hg))).trans (h.block x hx hn)⟩
theorem Rs.step {w w1 : World} {base : Nat} {v : Value} {l : List (List Int)} (h : Rs w base v l) (hm : ∀ k, v.ownBlock = some k → k < w.heap.size → w1.heap[k]? = w.heap[k]?) : Rs w1 base v l := Kd.R_step h hm
theorem Rs.chg {F : Nat → Prop} {w w1 : World} {base : Nat} {v : Value} {l : List (List Int)} (h : Rs w base v l) (hc : Chg F w w1) (hF : ∀ k, v.ownBlock = some k → ¬ F k) : Rs w1 base v l := h.step (fun k hk hlt => hc.block k hlt (hF k hk))
theorem Rs.below {w w1 : World} {base : Nat} {v : Value} {l : List (List Int)} (h : Rs w base v l) (hb : Below w.heap.size w w1) : Rs w1 base v l := Kd.R_below h hb
theorem Rs.of {w : World} {base : Nat} {ok : Nat → Prop} {v : Value} {l : List (List Int)} (h : Kd.R sec 91 w base ok v l) : Rs w base v l :=
  ⟨fun k hk => hk, h.2.imp_ (fun _ _ hp => hp)⟩
theorem Rs.typed {w : World} {base : Nat} {v : Value} {l : List (List Int)} (h : Rs w base v l) {k : Nat} (hk : v.ownBlock = some k) : base ≤ k ∧ k < w.heap.size ∧ ∃ cs, w.heap[k]? = some (.cells cs 91 (0, 0)) :=
  ⟨Kd.R_base h k hk, Kd.R_lt h k hk, Kd.R_typed h k hk⟩
theorem Rs.each {w : World} {base : Nat} {v : Value} {l : List (List Int)} (h : Rs w base v l) : ∀ x ∈ l, x.length = 512 := by
  intro x hx
  obtain ⟨i, hi⟩ := List.getElem?_of_mem hx
  obtain ⟨_, inner, _, hr⟩ := h
  exact (hr.2 i x hi).1
def asIs (v : Value) : Option (DataW Value × List MemPlace) := some (.held v, [])
structure DS where
  n : Nat
  L : List (List Int)
  W : Nat → List (List Int)
  c : Nat
  r : Int
  wr : Int
  fl : Int
def Fp (g lb mb : Nat) (f : Nat → Value) (n : Nat) (b : Nat) : Prop := b = g ∨ b = lb ∨ b = mb ∨ ∃ i, i < n ∧ (f i).ownBlock = some b
structure DkIn (w : World) (base g : Nat) (s : DS) (lb cp mb : Nat) (f : Nat → Value) (k : Nat) (D : DataW Value) : Prop where
  hd : w.heap[g]? = some (.cells #[.slice (some ⟨lb, 0, none⟩) s.n cp, .map (some mb), .int .i64 s.r, .int .i64 s.wr, .int .i64 s.fl] 89 (0, 0))
  la : Rs w base (.slice (some ⟨lb, 0, none⟩) s.n cp) s.L
  mp : w.ownsMap Try.prog 3 asIs mb k D
  kc : k ≤ s.c
  at_ : ∀ i : Nat, i < s.n → D.atKey (.int .i64 i) (.held (.slice none 0 0)) = .held (f i)
  ks : ∀ kl, Maps.has D kl = true → ∃ i : Nat, i < s.n ∧ kl = .int .i64 i ∧ s.W i ≠ []
  rows : ∀ i, i < s.n → Rs w base (f i) (s.W i)
  wl : ∀ i, i < s.n → (s.W i).length ≤ s.c
  sep : ∀ i j b, i < s.n → j < s.n → (f i).ownBlock = some b → (f j).ownBlock = some b → i = j
  sepl : ∀ i, i < s.n → (f i).ownBlock ≠ some lb
  gb : base ≤ g
  mbb : base ≤ mb
  n2 : 2 ≤ s.n
  nm : s.n ≤ 65536
def DkAt (w : World) (base g : Nat) (F : Nat → Prop) (s : DS) : Prop := ∃ lb cp mb f k D, DkIn w base g s lb cp mb f k D ∧ ∀ b, F b ↔ Fp g lb mb f s.n b
section
variable {w w' : World} {base g lb cp mb k : Nat} {F G : Nat → Prop} {s : DS} {f : Nat → Value} {D : DataW Value}
theorem DkIn.foot (h : DkIn w base g s lb cp mb f k D) (b : Nat) (hb : Fp g lb mb f s.n b) : base ≤ b ∧ b < w.heap.size := by
  rcases hb with rfl | rfl | rfl | ⟨i, hi, hb⟩
  · exact ⟨h.gb, blk_lt h.hd⟩
  · exact ⟨(h.la.typed rfl).1, (h.la.typed rfl).2.1⟩
  · exact ⟨h.mbb, h.mp.lt⟩
  · exact ⟨((h.rows i hi).typed hb).1, ((h.rows i hi).typed hb).2.1⟩
theorem DkIn.lbg (h : DkIn w base g s lb cp mb f k D) : lb ≠ g := by
  obtain ⟨cs, hc⟩ := (h.la.typed rfl).2.2
  exact blk_ne hc h.hd (by decide)
theorem DkIn.mbg (h : DkIn w base g s lb cp mb f k D) : mb ≠ g := by
  obtain ⟨es, ck, hb, _⟩ := h.mp
  intro e
  rw [e, h.hd] at hb
  cases hb
theorem DkIn.mbl (h : DkIn w base g s lb cp mb f k D) : mb ≠ lb := by
  obtain ⟨es, ck, hb, _⟩ := h.mp
  obtain ⟨cs, hc⟩ := (h.la.typed rfl).2.2
  intro e
  rw [e, hc] at hb
  cases hb
theorem DkIn.rowg (h : DkIn w base g s lb cp mb f k D) {i b : Nat} (hi : i < s.n) (hb : (f i).ownBlock = some b) : b ≠ g ∧ b ≠ mb ∧ b ≠ lb := by
  obtain ⟨cs, hc⟩ := ((h.rows i hi).typed hb).2.2
  refine ⟨blk_ne hc h.hd (by decide), ?_, fun e => h.sepl i hi (e ▸ hb)⟩
  obtain ⟨es, ck, hm, _⟩ := h.mp
  intro e
  rw [← e, hc] at hm
  cases hm
theorem DkIn.chg (h : DkIn w base g s lb cp mb f k D) (hc : Chg G w w') (hG : ∀ b, Fp g lb mb f s.n b → ¬ G b) : DkIn w' base g s lb cp mb f k D := by
  refine ⟨(hc.block g (blk_lt h.hd) (hG g (.inl rfl))).trans h.hd, h.la.chg hc (fun b hb => hG b (.inr (.inl (Option.some.inj hb).symm))), ?_, h.kc, h.at_, h.ks, fun i hi => (h.rows i hi).chg hc (fun b hb => hG b (.inr (.inr (.inr ⟨i, hi, hb⟩)))), h.wl, h.sep, h.sepl, h.gb, h.mbb, h.n2, h.nm⟩
  obtain ⟨es, ck, hb, r⟩ := h.mp
  exact ⟨es, ck, (hc.block mb (blk_lt hb) (hG mb (.inr (.inr (.inl rfl))))).trans hb, r⟩
theorem DkAt.chg (h : DkAt w base g F s) (hc : Chg G w w') (hG : ∀ b, F b → ¬ G b) : DkAt w' base g F s := by
  obtain ⟨lb, cp, mb, f, k, D, h1, h2⟩ := h
  exact ⟨lb, cp, mb, f, k, D, h1.chg hc (fun b hb => hG b ((h2 b).2 hb)), h2⟩
theorem DkAt.below (h : DkAt w base g F s) (hb : Below w.heap.size w w') : DkAt w' base g F s := h.chg (G := fun _ => False) (Chg.of_below hb) (fun _ _ => id)
theorem DkAt.foot (h : DkAt w base g F s) (b : Nat) (hb : F b) : base ≤ b ∧ b < w.heap.size := by
  obtain ⟨lb, cp, mb, f, k, D, h1, h2⟩ := h
  exact h1.foot b ((h2 b).1 hb)
theorem DkAt.typed (h : DkAt w base g F s) {b t : Nat} {cs : Array Value} {fr : Nat × Nat} (hb : w.heap[b]? = some (.cells cs t fr)) (h1 : t ≠ 89) (h2 : t ≠ 91) : ¬ F b := by
  obtain ⟨lb, cp, mb, f, k, D, h3, h4⟩ := h
  intro hF
  rcases (h4 b).1 hF with rfl | rfl | rfl | ⟨i, hi, hbi⟩
  · rw [h3.hd] at hb; injection hb with hb; injection hb with _ hb _; exact h1 hb.symm
  · obtain ⟨cs, hc⟩ := (h3.la.typed rfl).2.2
    rw [hc] at hb; injection hb with hb; injection hb with _ hb _; exact h2 hb.symm
  · obtain ⟨es, ck, hm, _⟩ := h3.mp
    rw [hm] at hb; cases hb
  · obtain ⟨cs, hc⟩ := ((h3.rows i hi).typed hbi).2.2
    rw [hc] at hb; injection hb with hb; injection hb with _ hb _; exact h2 hb.symm
theorem DkAt.n_le (h : DkAt w base g F s) : 2 ≤ s.n ∧ s.n ≤ 65536 := by
  obtain ⟨lb, cp, mb, f, k, D, h3, h4⟩ := h
  exact ⟨h3.n2, h3.nm⟩
theorem DkIn.acts (h : DkIn w base g s lb cp mb f k D) (j : Nat) (x : Int) (s' : DS) (hs : s'.n = s.n ∧ s'.L = s.L ∧ s'.W = s.W ∧ s'.c = s.c)
    (hj : #[Value.slice (some ⟨lb, 0, none⟩) s.n cp, .map (some mb), .int .i64 s.r, .int .i64 s.wr, .int .i64 s.fl].setIfInBounds j (.int .i64 x) = #[Value.slice (some ⟨lb, 0, none⟩) s.n cp, .map (some mb), .int .i64 s'.r, .int .i64 s'.wr, .int .i64 s'.fl]) :
    DkIn (w.setCell ⟨g, j, none⟩ (.int .i64 x)) base g s' lb cp mb f k D := by
  obtain ⟨e1, e2, e3, e4⟩ := hs
  have far : ∀ b, b ≠ g → (w.setCell ⟨g, j, none⟩ (.int .i64 x)).heap[b]? = w.heap[b]? := fun b hb => Below.heap_setCell w ⟨g, j, none⟩ _ b hb
  refine ⟨?_, ?_, ?_, by rw [e4]; exact h.kc, by rw [e1]; exact h.at_, by rw [e1, e3]; exact h.ks, ?_, by rw [e1, e3, e4]; exact h.wl, by rw [e1]; exact h.sep, by rw [e1]; exact h.sepl, h.gb, h.mbb, by rw [e1]; exact h.n2, by rw [e1]; exact h.nm⟩
  · rw [e1, ← hj]; exact blk_set h.hd j _
  · rw [e1, e2]; exact h.la.step (fun b hb _ => far b (by cases hb; exact h.lbg))
  · obtain ⟨es, ck, hb, r⟩ := h.mp
    exact ⟨es, ck, (far mb h.mbg).trans hb, r⟩
  · rw [e1, e3]; exact fun i hi => (h.rows i hi).step (fun b hb _ => far b (h.rowg hi hb).1)
end
end Go.Proofs.Ytddnhcnkjcdfgaa.M

namespace Go.Proofs.Ytddnhcnkjcdfgaa.M
open Go.RowKit Go.Maps Go.Proofs.YtddnhcnkjcdfgaaW.PrintWords Go.Proofs.YtddnhcnkjcdfgaaW.PrintLast Go.Proofs.YtddnhcnkjcdfgaaW.PrintMore
set_option linter.unusedVariables false
set_option linter.unusedSimpArgs false
theorem info5 : (Try.prog.info? 5).map (fun i => (i.zero, i.size, i.bytes)) = some (some (.int .u8 0), 1, 1) := by kernel_rfl
theorem empty_row {d : IntKind} (W : World) (e base : Nat) (hb : base ≤ W.heap.size) : Kd.R (Kd.int d) e (W.alloc (.cells #[] e)) base (fun _ => True) (.slice (some ⟨W.heap.size, 0, none⟩) 0 0) [] := by
  have h := World.ownsRow_lit (base := base) (e := e) (size := 1) W #[] 0 hb (by decide) (by simp)
  exact Kd.R_of_own (enc := Value.int d) (h1 := fun _ => rfl) (xs := []) (by simpa [encs] using h) (fun _ _ => trivial)
set_option maxHeartbeats 4000000 in
set_option maxRecDepth 100000 in
theorem clone_calls (ad : Addr) (n c : Nat) (xs : List Int) (w : World) (h : (Kd.int .u8).C w (some ad) n xs) (hl : n ≤ 1000000) :
    Calls Try.prog 44 #[.slice (some ad) n c] w fun e w' => ∃ v, e = .returned v ∧ Kd.R (Kd.int .u8) 5 w' w.heap.size (fun _ => True) v xs ∧ Below w.heap.size w w' := by
  have hq : ∀ W : World, (binOp .eql 28 (.slice (some ad) n c) (.slice none 0 0)).run Try.prog W = .ok (.bool false) W := fun W => Lib.run_eql_slice_nil W _ 5 (some ad) n c 0 0 Try.underlying28
  have HH := Aside0.mk h
  have HL := Aside0.mk hl
  clear h hl
  go_enter Try.func44, Try.ntmps44
  go_wp2_with ((with_reducible refine gate_builtin (b := .append) (xs := #[.tmp 5, .tmp 6]) rfl ?_); (try (refine gate_guard (by rfl) ?_; dsimp only)); at_builtin; refine Kd.R_append_rows (Kd.int .u8) (w0 := w) w.heap.size rfl (.tmp 5) (.tmp 6) 28 5 (.int .u8 0) 1 rfl Try.underlying28 info5 rfl (by decide) (by omega) (.slice (some ⟨w.heap.size, 0, none⟩) 0 0) ([] : List Int) xs (some ad) n c (fun _ => True) (fun _ => False) rfl rfl ?aO ?aR (fun _ _ h => h) (fun _ h => h.elim) ?aF ?aB ?aS ?aL ?_; (case aO => exact empty_row w 5 w.heap.size (Nat.le_refl _)); (case aR => exact Kd.C_below HH.out (below_alloc (Below.refl _ _) _)); (case aF => exact (fun k hk => trivial)); (case aB => exact below_alloc (Below.refl _ _) _); (case aS => simp); (case aL => (have := HL.out; simp; omega)); intro v9 w9 ho hb hg hat)
  go_ret
  exact ⟨v9, rfl, by simpa using ho, hb⟩
theorem info91 : (Try.prog.info? 91).map (fun i => (i.zero, i.size, i.bytes)) = some (some (.agg (Array.replicate 512 (.int .u8 0))), 512, 512) := by kernel_rfl
def zeros : List Int := List.replicate 512 0
theorem zeros_len : zeros.length = 512 := by unfold zeros; rw [List.length_replicate]
theorem zeros_nums : nums .u8 zeros = (Array.replicate 512 (Value.int .u8 0)).toList := by unfold zeros nums; rw [List.map_replicate, Array.toList_replicate]
def DS.fresh (n : Nat) (L : List (List Int)) : DS := ⟨n, L, fun _ => [], 0, 0, 0, 0⟩
set_option maxHeartbeats 4000000 in
set_option maxRecDepth 100000 in
theorem many_calls (n : Int) (w : World) : Calls Try.prog 43 #[.int .i64 n] w fun e w' => e = .returned (.bool (decide (2 ≤ n ∧ n ≤ 65536))) ∧ w' = w := by
  by_cases h : 2 ≤ n
  · have h1 : decide (2 ≤ n) = true := decide_eq_true h
    by_cases h2 : n ≤ 65536
    · have h3 : decide (n ≤ 65536) = true := decide_eq_true h2
      rw [show decide (2 ≤ n ∧ n ≤ 65536) = true from decide_eq_true ⟨h, h2⟩]
      clear h h2
      go_enter Try.func43, Try.ntmps43
      go_wp2
      go_ret
      exact ⟨rfl, rfl⟩
    · have h3 : decide (n ≤ 65536) = false := decide_eq_false h2
      rw [show decide (2 ≤ n ∧ n ≤ 65536) = false from decide_eq_false (fun h => h2 h.2)]
      clear h h2
      go_enter Try.func43, Try.ntmps43
      go_wp2
      go_ret
      exact ⟨rfl, rfl⟩
  · have h1 : decide (2 ≤ n) = false := decide_eq_false h
    rw [show decide (2 ≤ n ∧ n ≤ 65536) = false from decide_eq_false (fun h2 => h h2.1)]
    clear h
    go_enter Try.func43, Try.ntmps43
    go_wp2
    go_ret
    exact ⟨rfl, rfl⟩
set_option maxHeartbeats 4000000 in
set_option maxRecDepth 100000 in
theorem outside_calls (g : Nat) (i : Int) (n : Nat) (A : Option Addr) (c : Nat) (w : World) (hd : w.cell? ⟨g, 0, none⟩ = some (.slice A n c)) : Calls Try.prog 41 #[.pointer (some ⟨g, 0, none⟩), .int .i64 i] w fun e w' => e = .returned (.bool (!decide (0 ≤ i ∧ i < (n : Int)))) ∧ w' = w := by
  by_cases h : i < 0
  · have h1 : decide (i < 0) = true := decide_eq_true h
    rw [show (!decide (0 ≤ i ∧ i < (n : Int))) = true by simp; omega]
    clear h
    go_enter Try.func41, Try.ntmps41
    go_wp2
    go_ret
    exact ⟨rfl, rfl⟩
  · have h1 : decide (i < 0) = false := decide_eq_false h
    by_cases h2 : (n : Int) ≤ i
    · have h3 : decide ((n : Int) ≤ i) = true := decide_eq_true h2
      rw [show (!decide (0 ≤ i ∧ i < (n : Int))) = true by simp; omega]
      clear h h2
      go_enter Try.func41, Try.ntmps41
      go_wp2
      go_ret
      exact ⟨rfl, rfl⟩
    · have h3 : decide ((n : Int) ≤ i) = false := decide_eq_false h2
      rw [show (!decide (0 ≤ i ∧ i < (n : Int))) = false by simp; omega]
      clear h h2
      go_enter Try.func41, Try.ntmps41
      go_wp2
      go_ret
      exact ⟨rfl, rfl⟩
theorem fresh_at {w : World} {base lb cp n : Nat} {L : List (List Int)} (hr : Rs w base (.slice (some ⟨lb, 0, none⟩) n cp) L) (hb : base ≤ w.heap.size) (h2 : 2 ≤ n) (hm : n ≤ 65536) :
    ∃ F, DkAt ((w.alloc (.map #[] 0)).alloc (.cells #[.slice (some ⟨lb, 0, none⟩) n cp, .map (some w.heap.size), .int .i64 0, .int .i64 0, .int .i64 0] 89)) base (w.heap.size + 1) F (DS.fresh n L) := by
  have hs : (w.alloc (.map #[] 0)).heap.size = w.heap.size + 1 := by simp
  refine ⟨_, lb, cp, w.heap.size, fun _ => .slice none 0 0, 0, .map [], ⟨?_, ?_, ?_, Nat.le_refl _, fun i _ => rfl, fun kl h => by simp [Maps.has] at h, fun i _ => ⟨fun k hk => by simp [Value.ownBlock] at hk, OwnRow.none_ _ _ _ _ _⟩, fun i _ => Nat.le_refl _, fun i j b _ _ h => by simp [Value.ownBlock] at h, fun i _ => by simp [Value.ownBlock], by omega, hb, h2, hm⟩, fun b => Iff.rfl⟩
  · have := heap_alloc_new (w.alloc (.map #[] 0)) (.cells #[.slice (some ⟨lb, 0, none⟩) n cp, .map (some w.heap.size), .int .i64 0, .int .i64 0, .int .i64 0] 89)
    rw [hs] at this
    exact this
  · exact (hr.below (below_alloc (Below.refl _ _) _)).below (below_alloc (Below.refl _ _) _)
  · exact (World.ownsMap_made w _ _ _).alloc _
set_option maxHeartbeats 4000000 in
set_option maxRecDepth 100000 in
theorem new_calls (n : Nat) (w : World) (h2 : 2 ≤ n) (hm : n ≤ 65536) :
    Calls Try.prog 21 #[.int .i64 (n : Int)] w fun e w' => ∃ g F, e = .returned (.tuple #[.pointer (some ⟨g, 0, none⟩), .int .i64 0]) ∧ DkAt w' w.heap.size g F (DS.fresh n (List.replicate n zeros)) ∧ Below w.heap.size w w' := by
  have Hmany := Aside0.mk (fun (W : World) => (show Calls Try.prog 43 #[.int .i64 (n : Int)] W fun e w' => e = .returned (.bool true) ∧ w' = W from by
    have h_ := many_calls (n : Int) W
    rw [show decide (2 ≤ (n : Int) ∧ (n : Int) ≤ 65536) = true from decide_eq_true (by omega)] at h_
    exact h_))
  have H2 := Aside0.mk h2
  have HM := Aside0.mk hm
  have hmm := @run_makeMap Try.prog
  have hz := Aside0.mk zeros_nums
  clear h2 hm
  go_enter Try.func21, Try.ntmps21
  go_wp2_with (first
    | (go_at_call 43; (with_reducible refine (Hmany.out _).mono ?_); rintro e w1 ⟨rfl, hw_⟩; subst hw_)
    | (at_make; refine Kd.R_make sec (w0 := w1) w1.heap.size 91 rfl (N := 8) rfl 86 (.tmp 7) (.tmp 7) rfl (n : Int) rfl rfl Try.underlying86 (.agg (Array.replicate 512 (.int .u8 0))) 512 info91 (by simp [sec, Value.cells]) (by decide) (by decide) zeros (ok := fun _ => True) (okp := fun _ => True) ?mz (fun _ h => h) trivial (by omega) ?ml (Below.refl _ _) (Nat.le_refl _) ?_; (case mz => exact ⟨zeros_len, hz.out.symm⟩); (case ml => have := HM.out; omega); intro v8 w2 hr hb hg hat; obtain ⟨lb, cp, e8, _, _, _⟩ := Kd.R_form hr (by rw [List.length_replicate]; have := H2.out; omega); rw [List.length_replicate, Int.toNat_natCast] at e8; subst e8; rw [Int.toNat_natCast] at hr; have HR := Aside0.mk (Rs.of hr); have HB := Aside0.mk hb; clear hr hb hg hat))
  go_ret2
  obtain ⟨F, hF⟩ := fresh_at HR.out HB.out.size H2.out HM.out
  exact ⟨_, F, rfl, hF, below_alloc (below_alloc HB.out _) _⟩
end Go.Proofs.Ytddnhcnkjcdfgaa.M

namespace Go.Proofs.Ytddnhcnkjcdfgaa.M
open Go.RowKit Go.Maps Go.Proofs.YtddnhcnkjcdfgaaW.PrintWords Go.Proofs.YtddnhcnkjcdfgaaW.PrintLast Go.Proofs.YtddnhcnkjcdfgaaW.PrintMore
set_option linter.unusedVariables false
set_option linter.unusedSimpArgs false
def DS.put (s : DS) (i : Nat) (b : List Int) : DS := ⟨s.n, s.L, fun j => if j = i then s.W i ++ [b] else s.W j, s.c + 1, s.r, wrap64 (s.wr + 1), s.fl⟩
theorem spot_of_C {w : World} {ad : Addr} {n : Nat} {xs : List Int} (h : (Kd.int .u8).C w (some ad) n xs) (hn : 0 < n) : ad.spot = none := by
  obtain ⟨ad', e, hc⟩ := Kd.at_int h 0 (by omega) (by omega)
  cases e
  cases hs : ad.spot with
  | none => rfl
  | some q =>
    exfalso
    rw [show ad.add (0 : Int).toNat = ad from rfl] at hc
    unfold World.cell? at hc
    split at hc
    · simp [hs] at hc
    · cases hc
theorem rangeAt_of_C {w : World} {ad : Addr} {n : Nat} {xs : List Int} (h : (Kd.int .u8).C w (some ad) n xs) (hs : ad.spot = none) : w.rangeAt ad.block ad.off (nums .u8 xs) := by
  intro j v hv
  obtain ⟨hl, _, hc⟩ := h
  have hj : j < xs.length := by
    have := (List.getElem?_eq_some_iff.1 hv).1
    rwa [nums_length] at this
  obtain ⟨ad', e, hcell⟩ := hc (by omega)
  cases e
  obtain ⟨cs, hcl, hk, hcell⟩ := hcell j _ (List.getElem?_eq_getElem hj)
  have hk' : cs = [.int .u8 xs[j]] := hk
  have h1 := hcell 0 (.int .u8 xs[j]) (by rw [hk']; rfl)
  have hv' : v = .int .u8 xs[j] := by
    rw [nums, List.getElem?_map, List.getElem?_eq_getElem hj] at hv
    exact (Option.some.inj hv).symm
  rw [hv']
  rw [show j * (Kd.int .u8).sz + 0 = j from Nat.mul_one j] at h1
  rw [← h1]
  congr 1
  obtain ⟨b, o, sp⟩ := ad
  dsimp only at hs ⊢
  subst hs
  exact (Addr.add_mid b o j).symm
theorem sap (A : Option Addr) (c : Nat) (W : World) : (Instr.arrayAt 91 (.slice A 512 c)).run Try.prog W = .ok (.pointer A) W := by
  have h := run_underlying Try.underlying91 W
  simp [Instr.arrayAt, Sem.run_bind, h]
theorem key_int (i : Int) (h : -9223372036854775808 ≤ i ∧ i ≤ 9223372036854775807) : keyOf Try.prog 3 (.int .i64 i) = some (.int .i64 i) :=
  keyOf_int_mk Try.underlying3 (by simp [Lit.wf, IntKind.min, IntKind.max, IntKind.signed, IntKind.bits]; omega)
theorem keyed : Keyed Try.prog 3 := int_keyed Try.underlying3
theorem zero86 (W : World) : (zeroValue 86).run Try.prog W = .ok (.slice none 0 0) W := by kernel_rfl
section
variable {w w' : World} {base g lb cp mb k : Nat} {F G : Nat → Prop} {s : DS} {f : Nat → Value} {D : DataW Value}
theorem DkIn.look (h : DkIn w base g s lb cp mb f k D) (i : Nat) (hi : i < s.n) : (Instr.lookup 87 (.map (some mb)) (.int .i64 (i : Int)) false).run Try.prog w = .ok (f i) w := by
  have hm := h.nm
  obtain ⟨v, ps, hrun, hv⟩ := h.mp.lookup keyed Try.underlying87 (zero86 w) (zd := .held (.slice none 0 0)) (zp := []) rfl (key_int (i : Int) (by omega))
  have e := h.at_ i hi
  have hv' : (some (DataW.held v, ([] : List MemPlace))) = some (D.atKey (.int .i64 (i : Int)) (.held (.slice none 0 0)), ps) := hv
  rw [e] at hv'
  have : v = f i := by
    have h1 := congrArg Prod.fst (Option.some.inj hv')
    exact DataW.held.inj h1
  rw [← this]
  exact hrun
end
theorem fold_zip : ∀ (l : List Value) (k : Nat) (cs : List Value), k + l.length ≤ cs.length → (l.zipIdx k).foldl (fun (a : Array Value) (p : Value × Nat) => a.setIfInBounds (0 + p.2) p.1) cs.toArray = (cs.take k ++ l ++ cs.drop (k + l.length)).toArray
  | [], k, cs, h => by simp
  | x :: l, k, cs, h => by
    rw [List.length_cons] at h
    rw [List.zipIdx_cons, List.foldl_cons]
    simp only [Nat.zero_add, List.setIfInBounds_toArray]
    have h1 := fold_zip l (k + 1) (cs.set k x) (by rw [List.length_set]; omega)
    simp only [Nat.zero_add] at h1
    rw [h1]
    congr 1
    rw [List.take_set, List.drop_set_of_lt (by omega), List.take_succ_eq_append_getElem (by omega), List.length_cons]
    rw [List.set_append_right _ _ (by rw [List.length_take]; omega)]
    simp [Nat.min_eq_left (show k ≤ cs.length by omega), show k + 1 + l.length = k + (l.length + 1) by omega]
theorem run_bs (cells : Array Value) (h : cells.size = 512) (v : Value) (hv : v.cells = cells) (W : World) : (Instr.buildSlice 86 1 #[(0, v)]).run Try.prog W = .ok (.slice (some ⟨W.heap.size, 0, none⟩) 1 1) (W.alloc (.cells cells 91)) := by
  obtain ⟨i, hi, hz, hsz, hby⟩ := info_parts info91
  generalize Value.agg (Array.replicate 512 (.int .u8 0)) = zv at hz
  refine run_buildSlice W _ _ 1 _ cells i zv Try.underlying86 hi hz (by rw [hsz]; decide) (by rw [hsz]; decide) ?_
  have hl : ((Array.range (1 * i.size)).map (zv.cells[· % zv.cells.size]!)).size = 512 := by
    rw [Array.size_map, Array.size_range, hsz]
  generalize (Array.range (1 * i.size)).map (zv.cells[· % zv.cells.size]!) = z at hl
  have h1 := fold_zip cells.toList 0 z.toList (by rw [Array.length_toList, Array.length_toList, h, hl]; omega)
  rw [Array.toArray_toList] at h1
  have h2 : cells.zipIdx.foldl (fun cs (p : Value × Nat) => cs.setIfInBounds (0 + p.2) p.1) z = (cells.toList.zipIdx 0).foldl (fun cs (p : Value × Nat) => cs.setIfInBounds (0 + p.2) p.1) z := by
    rw [← Array.foldl_toList, Array.toList_zipIdx]
  rw [h1] at h2
  have h3 : (z.toList.take 0 ++ cells.toList ++ z.toList.drop (0 + cells.toList.length)).toArray = cells := by
    rw [List.drop_of_length_le (by rw [Array.length_toList, Array.length_toList, h, hl]; omega), List.append_nil, List.take_zero, List.nil_append, Array.toArray_toList]
  rw [h3] at h2
  have h4 : ((v.cells.size ≠ i.size) || decide (0 * i.size + v.cells.size > z.size)) = false := by rw [hv, h, hsz, hl]; decide
  show Instr.fill _ z [(0, v)] = some cells
  unfold Instr.fill
  simp only [h4, Bool.false_eq_true, if_false]
  unfold Instr.fill
  rw [hv, Nat.zero_mul]
  exact congrArg some h2
theorem wp_bs' {o : Oper} {x : Operand} {a : Act} {W : World} {K : Act → World → Prop} {Q : Exit → Act → World → Prop} (ho : o.op = .buildSlice 86 1 #[(0, x)]) (h : (a.eval x).cells.size = 512) :
    Oper.wp Try.prog o a W K Q = K (a.put o.dst (.slice (some ⟨W.heap.size, 0, none⟩) 1 1)) (W.alloc (.cells (a.eval x).cells 91)) := by
  have h1 := run_bs (a.eval x).cells h (a.eval x) rfl W
  unfold Oper.wp execOp
  simp only [ho, Sem.run_bind, List.map_toArray, List.map_cons, List.map_nil, h1, Result.andThen_ok]
  rfl
theorem wp_bs {d : Option Tmp} {x : Operand} {t : TypeId} {p : String} {af : Array Edge} {gd : Option (Nat × Bool)} {a : Act} {W : World} {K : Act → World → Prop} {Q : Exit → Act → World → Prop} (h : (a.eval x).cells.size = 512) :
    Oper.wp Try.prog ⟨d, .buildSlice 86 1 #[(0, x)], t, p, af, gd⟩ a W K Q = K (a.put d (.slice (some ⟨W.heap.size, 0, none⟩) 1 1)) (W.alloc (.cells (a.eval x).cells 91)) := wp_bs' rfl h
attribute [local go_sem ↓] Go.wp_at_zero Go.wp_at_succ wp_bs
end Go.Proofs.Ytddnhcnkjcdfgaa.M

namespace Go.Proofs.Ytddnhcnkjcdfgaa.M
open Go.RowKit Go.Maps Go.Proofs.YtddnhcnkjcdfgaaW.PrintWords Go.Proofs.YtddnhcnkjcdfgaaW.PrintLast Go.Proofs.YtddnhcnkjcdfgaaW.PrintMore
set_option linter.unusedVariables false
set_option linter.unusedSimpArgs false
attribute [local go_sem ↓] Go.wp_at_zero Go.wp_at_succ wp_bs
section
variable {w w2 w3 w4 : World} {base g lb cp mb k i : Nat} {s : DS} {f : Nat → Value} {D : DataW Value} {b : List Int} {v1 : Value}
theorem write_end (hi : i < s.n) (hx : Chg (Fp g lb mb f s.n) w w2) (h : DkIn w2.drew base g ⟨s.n, s.L, s.W, s.c, s.r, wrap64 (s.wr + 1), s.fl⟩ lb cp mb f k D)
    (ho : Kd.R sec 91 w3 base (fun x => (f i).ownBlock = some x ∨ w2.drew.heap.size ≤ x) v1 (s.W i ++ [b]) ∧ w2.drew.grownBy w3 (f i).ownBlock ∧ (v1.ownBlock = (f i).ownBlock ∨ ∃ q, v1.ownBlock = some q ∧ w2.drew.heap.size ≤ q) ∧ w4.ownsMap Try.prog 3 asIs mb (k + 1) (D.put (.int .i64 (i : Int)) (.held v1)) ∧ w3.grownBy w4 (some mb)) :
    ∃ F', DkAt w4 base g F' (s.put i b) ∧ (∀ x, F' x → Fp g lb mb f s.n x ∨ w.heap.size ≤ x) ∧ Chg (Fp g lb mb f s.n) w w4 := by
  obtain ⟨hr, hg, hat, hown, hgr⟩ := ho
  have hh : w2.drew.heap = w2.heap := rfl
  have hc3 : Chg (fun x => (f i).ownBlock = some x) w2.drew w3 := Chg.of_grown hg (fun x hx => hx)
  have hc4 : Chg (fun x => x = mb) w3 w4 := Chg.of_grown hgr (fun x hx => (Option.some.inj hx).symm)
  have hc : Chg (fun x => x = mb ∨ (f i).ownBlock = some x) w2.drew w4 := (hc3.mono (fun x hx => .inr hx)).trans hc4 (fun x hx => .inl (.inl hx))
  have hkey : WideAt.IsKeyLit (.int .i64 (i : Int)) := trivial
  have hf : ∀ j, j ≠ i → ∀ x, j < s.n → (f j).ownBlock = some x → v1.ownBlock = some x → False := by
    intro j hj x hjn hx hv
    rcases hat with e | ⟨q, e, hq⟩
    · rw [e] at hv
      exact hj (h.sep j i x hjn hi hx hv)
    · rw [e] at hv
      have := ((h.rows j hjn).typed hx).2.1
      cases hv
      omega
  refine ⟨Fp g lb mb (fun j => if j = i then v1 else f j) s.n, ⟨lb, cp, mb, fun j => if j = i then v1 else f j, k + 1, D.put (.int .i64 (i : Int)) (.held v1), ⟨?_, ?_, hown, Nat.succ_le_succ h.kc, ?_, ?_, ?_, ?_, ?_, ?_, h.gb, h.mbb, h.n2, h.nm⟩, fun x => Iff.rfl⟩, ?_, ?_⟩
  · exact (hc.block g (blk_lt h.hd) (fun e => by rcases e with e | e; exact h.mbg e.symm; exact (h.rowg hi e).1 rfl)).trans h.hd
  · exact h.la.chg hc (fun x hx e => by cases hx; rcases e with e | e; exact h.mbl e.symm; exact (h.rowg hi e).2.2 rfl)
  · intro j hj
    by_cases e : j = i
    · subst e
      rw [if_pos rfl]
      exact atKey_put_same (h.mp.isMap) hkey _ _
    · rw [if_neg e]
      exact (atKey_put_other (fun e2 => e (by injection e2 with _ e2; omega)) _ _).trans (h.at_ j hj)
  · intro kl hkl
    by_cases e : kl = .int .i64 (i : Int)
    · exact ⟨i, hi, e, by show (if i = i then s.W i ++ [b] else s.W i) ≠ []; rw [if_pos rfl]; simp⟩
    · rw [has_put_other e] at hkl
      obtain ⟨j, hj, e1, e2⟩ := h.ks kl hkl
      refine ⟨j, hj, e1, ?_⟩
      show (if j = i then s.W i ++ [b] else s.W j) ≠ []
      by_cases e3 : j = i
      · rw [if_pos e3]; simp
      · rw [if_neg e3]; exact e2
  · intro j hj
    show Rs w4 base (if j = i then v1 else f j) (if j = i then s.W i ++ [b] else s.W j)
    by_cases e : j = i
    · rw [if_pos e, if_pos e]
      refine (Rs.of hr).chg hc4 (fun x hx e2 => ?_)
      have e2 : x = mb := e2
      obtain ⟨cs, hcs⟩ := (Rs.typed (Rs.of hr) hx).2.2
      rw [e2] at hcs
      obtain ⟨es, ck, hm, _⟩ := h.mp.kept hg (fun e => (h.rowg hi e.symm).2.1 rfl)
      rw [hcs] at hm
      cases hm
    · rw [if_neg e, if_neg e]
      refine (h.rows j hj).chg hc (fun x hx e2 => ?_)
      rcases e2 with e2 | e2
      · exact (h.rowg hj hx).2.1 e2
      · exact e (h.sep j i x hj hi hx e2)
  · intro j hj
    show (if j = i then s.W i ++ [b] else s.W j).length ≤ s.c + 1
    by_cases e : j = i
    · rw [if_pos e, List.length_append]
      have : (s.W i).length ≤ s.c := h.wl i hi
      simp
      omega
    · rw [if_neg e]
      have : (s.W j).length ≤ s.c := h.wl j hj
      omega
  · intro j q x hj hq h1 h2
    have h1 : (if j = i then v1 else f j).ownBlock = some x := h1
    have h2 : (if q = i then v1 else f q).ownBlock = some x := h2
    by_cases e : j = i
    · by_cases e2 : q = i
      · omega
      · rw [if_pos e] at h1
        rw [if_neg e2] at h2
        exact (hf q e2 x hq h2 h1).elim
    · rw [if_neg e] at h1
      by_cases e2 : q = i
      · rw [if_pos e2] at h2
        exact (hf j e x hj h1 h2).elim
      · rw [if_neg e2] at h2
        exact h.sep j q x hj hq h1 h2
  · intro j hj e
    have e : (if j = i then v1 else f j).ownBlock = some lb := e
    by_cases e1 : j = i
    · rw [if_pos e1] at e
      rcases hat with e2 | ⟨q, e2, hq⟩
      · rw [e2] at e
        exact h.sepl i hi e
      · rw [e2] at e
        have h5 := (h.la.typed rfl).2.1
        have h6 : q = lb := Option.some.inj e
        rw [h6] at hq
        exact absurd hq (Nat.not_le.2 h5)
    · rw [if_neg e1] at e
      exact h.sepl j hj e
  · intro x hx2
    rcases hx2 with e | e | e | ⟨j, hj, e⟩
    · exact .inl (.inl e)
    · exact .inl (.inr (.inl e))
    · exact .inl (.inr (.inr (.inl e)))
    · have e : (if j = i then v1 else f j).ownBlock = some x := e
      by_cases e1 : j = i
      · rw [if_pos e1] at e
        rcases hat with e2 | ⟨q, e2, hq⟩
        · rw [e2] at e
          exact .inl (.inr (.inr (.inr ⟨i, hi, e⟩)))
        · rw [e2] at e
          cases e
          right
          have := hx.size
          rw [hh] at hq
          omega
      · rw [if_neg e1] at e
        exact .inl (.inr (.inr (.inr ⟨j, hj, e⟩)))
  · refine (hx.trans (Chg.of_below (below_drew1 (Below.refl _ _)) : Chg (Fp g lb mb f s.n) w2 w2.drew) (fun x hx => .inl hx)).trans (hc.mono (fun x e => ?_)) (fun x e => .inl e)
    rcases e with e | e
    · exact .inr (.inr (.inl e))
    · exact .inr (.inr (.inr ⟨i, hi, e⟩))
end
set_option maxHeartbeats 1000000 in
set_option maxRecDepth 100000 in
theorem write_in (g i : Nat) (A : Option Addr) (c : Nat) (b : List Int) (w : World) (base lb cp mb k : Nat) (f : Nat → Value) (D : DataW Value) (s : DS) (h : DkIn w base g s lb cp mb f k D) (hi : i < s.n) (hC : (Kd.int .u8).C w A 512 b) (hne : ∀ ad, A = some ad → ¬ Fp g lb mb f s.n ad.block) (hc : s.c < 1073741824) :
    Calls Try.prog 16 #[.pointer (some ⟨g, 0, none⟩), .int .i64 (i : Int), .slice A 512 c] w fun e w' => e = .returned (.int .i64 0) ∧ ∃ F', DkAt w' base g F' (s.put i b) ∧ (∀ b, F' b → Fp g lb mb f s.n b ∨ w.heap.size ≤ b) ∧ Chg (Fp g lb mb f s.n) w w' := by
  obtain ⟨ad, rfl, _⟩ := Kd.at_int hC 0 (by omega) (by omega)
  have hspot := spot_of_C hC (by omega)
  obtain ⟨ab, ao, asp⟩ := ad
  obtain rfl : asp = none := hspot
  have hrange := rangeAt_of_C hC rfl
  have hblen : b.length = 512 := hC.1
  have hag : ab ≠ g := fun e => hne _ rfl (.inl e)
  have hn2 := h.n2
  have hnm := h.nm
  have hg0 : w.cell? ⟨g, 0, none⟩ = some (.slice (some ⟨lb, 0, none⟩) s.n cp) := blk_cell h.hd 0
  have hg3 : w.cell? ⟨g, 3, none⟩ = some (.int .i64 s.wr) := blk_cell h.hd 3
  have hgf : w.frozen? ⟨g, 3, none⟩ = false := blk_frozen h.hd 3
  have Hout := Aside0.mk (show Calls Try.prog 41 #[.pointer (some ⟨g, 0, none⟩), .int .i64 (i : Int)] w fun e w' => e = .returned (.bool false) ∧ w' = w from by
    have h_ := outside_calls g (i : Int) s.n (some ⟨lb, 0, none⟩) cp w hg0
    rw [show (!decide (0 ≤ (i : Int) ∧ (i : Int) < (s.n : Int))) = false by simp; omega] at h_
    exact h_)
  have H1 := Aside0.mk (h.acts 3 (wrap64 (s.wr + 1)) ⟨s.n, s.L, s.W, s.c, s.r, wrap64 (s.wr + 1), s.fl⟩ ⟨rfl, rfl, rfl, rfl⟩ rfl)
  have HR := Aside0.mk (show (w.setCell ⟨g, 3, none⟩ (.int .i64 (wrap64 (s.wr + 1)))).rangeAt ab ao (nums .u8 b) from fun j v hv => (World.cell?_setCell_far w ⟨g, 3, none⟩ ⟨ab, ao + j, none⟩ _ (fun e => hag e.symm)).trans (hrange j v hv))
  have HNE := Aside0.mk (hne _ rfl)
  have hsap := sap (some ⟨ab, ao, none⟩) c
  have HI := Aside0.mk hi
  have HC := Aside0.mk hc
  have HBL := Aside0.mk hblen
  have HX := Aside0.mk (Chg.setCell (F := Fp g lb mb f s.n) (Chg.refl _ w) (.inl rfl) 3 (.int .i64 (wrap64 (s.wr + 1))))
  have hi0 : (0 : Int) ≤ (i : Int) := by omega
  clear hrange hblen hi hc h hC hne hag
  go_enter Try.func16, Try.ntmps16
  go_wp2_with (go_at_call 41; (with_reducible refine Hout.out.mono ?_); rintro e w1 ⟨rfl, hw_⟩; subst hw_)
  have hg1 : ∀ W, DkIn W base g ⟨s.n, s.L, s.W, s.c, s.r, wrap64 (s.wr + 1), s.fl⟩ lb cp mb f k D → W.cell? ⟨g, 1, none⟩ = some (.map (some mb)) := fun W h => blk_cell h.hd 1
  have HG1 := Aside0.mk hg1
  clear hg1 Hout hg0 hg3 hgf
  generalize w1.setCell ⟨g, 3, none⟩ (.int .i64 (wrap64 (s.wr + 1))) = w2 at H1 HR HX ⊢
  have HS := Aside0.mk (fun (W : World) (hb : Chg (fun x => x = mb ∨ (f i).ownBlock = some x) w2 W) => (show W.cell? ⟨g, 1, none⟩ = some (.map (some mb)) ∧ W.rangeAt ab ao (nums .u8 b) from
    ⟨(blk_cell ((hb.block g (blk_lt H1.out.hd) (fun e => by rcases e with e | e; exact H1.out.mbg e.symm; exact (H1.out.rowg HI.out e).1 rfl)).trans H1.out.hd) 1).trans rfl, fun j v hv => by
      have h1 := HR.out j v hv
      have h2 := hb.block ab (World.block_lt_of_cell? w2 _ h1) (fun e => HNE.out (by rcases e with e | e; exact .inr (.inr (.inl e)); exact .inr (.inr (.inr ⟨i, HI.out, e⟩))))
      rw [← h1]
      unfold World.cell?
      rw [h2]⟩))
  have hlb : (nums .u8 b).length = 512 := by rw [nums_length, HBL.out]
  have hnb : ∀ v ∈ nums .u8 b, v.oneCell' = true := fun v hv => by obtain ⟨y, _, rfl⟩ := List.mem_map.1 hv; rfl
  have hu91 := Try.underlying91
  have hi91 : (Try.prog.info? 91).map (·.size) = some (nums .u8 b).length := by rw [hlb]; kernel_rfl
  generalize hcb : nums .u8 b = cb at *
  have HCB := Aside0.mk hcb
  clear hcb
  have HD := Aside0.mk (H1.out.chg (G := fun _ => False) (Chg.of_below (below_drew1 (Below.refl _ _))) (fun _ _ => id))
  have hlk := HD.out.look i HI.out
  have hlk2 : (Instr.lookup 87 (.map (some mb)) (.int .i64 (i : Int)) false).run Try.prog (w2.alloc (.cells cb.toArray 91)).drew = .ok (f i) (w2.alloc (.cells cb.toArray 91)).drew := (HD.out.chg (w' := (w2.alloc (.cells cb.toArray 91)).drew) (G := fun _ => False) (Chg.of_below (below_alloc (w := w2.drew) (Below.refl _ _) (.cells cb.toArray 91))) (fun _ _ => id)).look i HI.out
  have HSD := Aside0.mk (HS.out w2.drew (Chg.of_below (below_drew1 (Below.refl _ _))))
  have HSA := Aside0.mk (HS.out (w2.drew.alloc (.cells cb.toArray 91)) (Chg.of_below (below_alloc (below_drew1 (Below.refl _ _)) _)))
  have HSC := Aside0.mk (show sec.M w2.drew base (fun _ => False) b cb from ⟨HBL.out, HCB.out.symm⟩)
  refine wp_region_noPanic ?_
  refine wp_region_held_drew (S := (fun W => W.cell? ⟨g, 1, none⟩ = some (.map (some mb)) ∧ W.rangeAt ab ao cb)) (by kernel_rfl) HSD.out (fun hHeld => ?_)
  refine wpAnyH_take (i := 0) (oi := { dst := some 24, op := Go.Op.move (Go.Operand.tmp 0), type := 23, pos := "disk.go:73", after := #[], guard := none }) (v := ?_) rfl (by kernel_rfl) (by kernel_rfl) (by kernel_rfl) (fun _ _ _ h => h) (Or.inl ⟨by rfl, ?_⟩) (by assumption) ?_
  rotate_left
  · intro W hSw; (try dsimp only at hSw); go_simp; first | done | with_reducible rfl
  (try simp only [Act.put, List.setIfInBounds_toArray, List.set_cons_zero, List.set_cons_succ])
  refine wpAnyH_take (i := 1) (oi := { dst := some 25, op := Go.Op.nilCheck (Go.Operand.tmp 24), type := 0, pos := "disk.go:73", after := #[{ on := 0, ground := Go.Ground.data }], guard := none }) (v := ?_) rfl (by kernel_rfl) (by kernel_rfl) (by kernel_rfl) (fun _ _ _ h => h) (Or.inl ⟨by rfl, ?_⟩) (by assumption) ?_
  rotate_left
  · intro W hSw; (try dsimp only at hSw); go_simp; first | done | with_reducible rfl
  (try simp only [Act.put, List.setIfInBounds_toArray, List.set_cons_zero, List.set_cons_succ])
  refine wpAnyH_take (i := 2) (oi := { dst := some 26, op := Go.Op.fieldAddr 89 (Go.Operand.tmp 25) 1, type := 0, pos := "disk.go:73", after := #[{ on := 1, ground := Go.Ground.data }], guard := none }) (v := ?_) rfl (by kernel_rfl) (by kernel_rfl) (by kernel_rfl) (fun _ _ _ h => h) (Or.inl ⟨by rfl, ?_⟩) (by assumption) ?_
  rotate_left
  · intro W hSw; (try dsimp only at hSw); go_simp; first | done | with_reducible rfl
  (try simp only [Act.put, List.setIfInBounds_toArray, List.set_cons_zero, List.set_cons_succ])
  refine wpAnyH_take (i := 3) (oi := { dst := some 27, op := Go.Op.load 87 (Go.Operand.tmp 26), type := 87, pos := "disk.go:73", after := #[{ on := 2, ground := Go.Ground.data }], guard := none }) (v := ?_) rfl (by kernel_rfl) (by kernel_rfl) (by kernel_rfl) (fun _ _ _ h => h) (Or.inl ⟨by rfl, ?_⟩) (by assumption) ?_
  rotate_left
  · intro W hSw; (try dsimp only at hSw); go_simp; first | done | with_reducible rfl
  (try simp only [Act.put, List.setIfInBounds_toArray, List.set_cons_zero, List.set_cons_succ])
  refine wpAnyH_take (i := 4) (oi := { dst := some 28, op := Go.Op.move (Go.Operand.tmp 1), type := 3, pos := "disk.go:73", after := #[], guard := none }) (v := ?_) rfl (by kernel_rfl) (by kernel_rfl) (by kernel_rfl) (fun _ _ _ h => h) (Or.inl ⟨by rfl, ?_⟩) (by assumption) ?_
  rotate_left
  · intro W hSw; (try dsimp only at hSw); go_simp; first | done | with_reducible rfl
  (try simp only [Act.put, List.setIfInBounds_toArray, List.set_cons_zero, List.set_cons_succ])
  refine wpAnyH_take (i := 5) (oi := { dst := some 29, op := Go.Op.move (Go.Operand.tmp 0), type := 23, pos := "disk.go:73", after := #[], guard := none }) (v := ?_) rfl (by kernel_rfl) (by kernel_rfl) (by kernel_rfl) (fun _ _ _ h => h) (Or.inl ⟨by rfl, ?_⟩) (by assumption) ?_
  rotate_left
  · intro W hSw; (try dsimp only at hSw); go_simp; first | done | with_reducible rfl
  (try simp only [Act.put, List.setIfInBounds_toArray, List.set_cons_zero, List.set_cons_succ])
  refine wpAnyH_take (i := 6) (oi := { dst := some 30, op := Go.Op.nilCheck (Go.Operand.tmp 29), type := 0, pos := "disk.go:73", after := #[{ on := 5, ground := Go.Ground.data }], guard := none }) (v := ?_) rfl (by kernel_rfl) (by kernel_rfl) (by kernel_rfl) (fun _ _ _ h => h) (Or.inl ⟨by rfl, ?_⟩) (by assumption) ?_
  rotate_left
  · intro W hSw; (try dsimp only at hSw); go_simp; first | done | with_reducible rfl
  (try simp only [Act.put, List.setIfInBounds_toArray, List.set_cons_zero, List.set_cons_succ])
  refine wpAnyH_take (i := 7) (oi := { dst := some 31, op := Go.Op.fieldAddr 89 (Go.Operand.tmp 30) 1, type := 0, pos := "disk.go:73", after := #[{ on := 6, ground := Go.Ground.data }], guard := none }) (v := ?_) rfl (by kernel_rfl) (by kernel_rfl) (by kernel_rfl) (fun _ _ _ h => h) (Or.inl ⟨by rfl, ?_⟩) (by assumption) ?_
  rotate_left
  · intro W hSw; (try dsimp only at hSw); go_simp; first | done | with_reducible rfl
  (try simp only [Act.put, List.setIfInBounds_toArray, List.set_cons_zero, List.set_cons_succ])
  refine wpAnyH_take (i := 8) (oi := { dst := some 32, op := Go.Op.load 87 (Go.Operand.tmp 31), type := 87, pos := "disk.go:73", after := #[{ on := 7, ground := Go.Ground.data }], guard := none }) (v := ?_) rfl (by kernel_rfl) (by kernel_rfl) (by kernel_rfl) (fun _ _ _ h => h) (Or.inl ⟨by rfl, ?_⟩) (by assumption) ?_
  rotate_left
  · intro W hSw; (try dsimp only at hSw); go_simp; first | done | with_reducible rfl
  (try simp only [Act.put, List.setIfInBounds_toArray, List.set_cons_zero, List.set_cons_succ])
  refine wpAnyH_take (i := 9) (oi := { dst := some 33, op := Go.Op.move (Go.Operand.tmp 1), type := 3, pos := "disk.go:73", after := #[], guard := none }) (v := ?_) rfl (by kernel_rfl) (by kernel_rfl) (by kernel_rfl) (fun _ _ _ h => h) (Or.inl ⟨by rfl, ?_⟩) (by assumption) ?_
  rotate_left
  · intro W hSw; (try dsimp only at hSw); go_simp; first | done | with_reducible rfl
  (try simp only [Act.put, List.setIfInBounds_toArray, List.set_cons_zero, List.set_cons_succ])
  refine wpAnyH_take (i := 11) (oi := { dst := some 35, op := Go.Op.move (Go.Operand.tmp 2), type := 28, pos := "disk.go:73", after := #[], guard := none }) (v := ?_) rfl (by kernel_rfl) (by kernel_rfl) (by kernel_rfl) (fun _ _ _ h => h) (Or.inl ⟨by rfl, ?_⟩) (by assumption) ?_
  rotate_left
  · intro W hSw; (try dsimp only at hSw); go_simp; first | done | with_reducible rfl
  (try simp only [Act.put, List.setIfInBounds_toArray, List.set_cons_zero, List.set_cons_succ])
  refine wpAnyH_take (i := 12) (oi := { dst := some 36, op := Go.Op.sliceToArrayPointer 91 (Go.Operand.tmp 35), type := 0, pos := "disk.go:73", after := #[{ on := 11, ground := Go.Ground.data }], guard := none }) (v := ?_) rfl (by kernel_rfl) (by kernel_rfl) (by kernel_rfl) (fun _ _ _ h => h) (Or.inl ⟨by rfl, ?_⟩) (by assumption) ?_
  rotate_left
  · intro W hSw; (try dsimp only at hSw); go_simp; first | done | with_reducible rfl
  (try simp only [Act.put, List.setIfInBounds_toArray, List.set_cons_zero, List.set_cons_succ])
  refine wpAnyH_take (i := 13) (oi := { dst := some 37, op := Go.Op.load 91 (Go.Operand.tmp 36), type := 91, pos := "disk.go:73", after := #[{ on := 12, ground := Go.Ground.data }], guard := none }) (v := .agg cb.toArray) rfl (by kernel_rfl) (by kernel_rfl) (by kernel_rfl) (fun _ _ _ h => h) (yieldsIf_load_mid (by rfl) 91 (.tmp 36) rfl ab ao rfl cb _ (fun W hSw => hSw.2) hu91 rfl hi91) (by assumption) ?_
  (try simp only [Act.put, List.setIfInBounds_toArray, List.set_cons_zero, List.set_cons_succ])
  refine wpAnyH_ready (rs := [10, 14]) (by kernel_rfl) (by simp) ?_
  refine AllReadyH.cons (o := { dst := some 34, op := Go.Op.lookup 87 (Go.Operand.tmp 32) (Go.Operand.tmp 33) false, type := 86, pos := "disk.go:73", after := #[{ on := 8, ground := Go.Ground.data }, { on := 9, ground := Go.Ground.data }], guard := none }) rfl (fun K hK => ?_) ?_
  · go_simp
    refine hK.out _ _ HSD.out (fun hHeld => ?_)
    clear hK K
    (try simp only [Act.put, List.setIfInBounds_toArray, List.set_cons_zero, List.set_cons_succ])
    refine wpAnyH_ready (rs := [14]) (by kernel_rfl) (by simp) ?_
    refine AllReadyH.cons (o := { dst := some 38, op := Go.Op.buildSlice 86 1 #[(0, Go.Operand.tmp 37)], type := 86, pos := "disk.go:73", after := #[{ on := 13, ground := Go.Ground.data }], guard := none }) rfl (fun K hK => ?_) AllReadyH.nil
    go_simp
    refine hK.out _ (w2.alloc (.cells cb.toArray 91)).drew HSA.out (fun hHeld => ?_)
    clear hK K
    (try simp only [Act.put, List.setIfInBounds_toArray, List.set_cons_zero, List.set_cons_succ])
    refine wpAnyH_ready (rs := [15]) (by kernel_rfl) (by simp) ?_
    refine AllReadyH.cons (o := { dst := some 39, op := Go.Op.call { callee := Go.Callee.builtin Go.Builtin.append, args := #[Go.Operand.tmp 34, Go.Operand.tmp 38], argTypes := #[86, 86] }, type := 86, pos := "disk.go:73", after := #[{ on := 10, ground := Go.Ground.data }, { on := 14, ground := Go.Ground.data }], guard := none }) rfl (fun K hK => ?_) AllReadyH.nil
    (refine Kd.R_append_step sec (w0 := w2.drew) (W := w2.drew) base (by rfl) (.tmp 34) (.tmp 38) 86 91 (.agg (Array.replicate 512 (.int .u8 0))) 512 (by rfl) Try.underlying86 info91 (by simp [sec, Value.cells]) (by decide) (by decide) (f i) (s.W i) b cb (fun x => (f i).ownBlock = some x ∨ w2.drew.heap.size ≤ x) (fun _ => False) (by rfl) (by rfl) HSC.out (fun _ h => h.elim) (fun _ h => .inr h) (Kd.R_mono (HD.out.rows i HI.out) (fun _ h => .inl h)) (Below.refl _ _) (by have := HD.out.gb; have := blk_lt HD.out.hd; omega) (by have h3 : (s.W i).length ≤ s.c := HD.out.wl i HI.out; have := HC.out; omega) ?_)
    intro v1 w3 ho hb hg hat
    obtain ⟨w4, hrun, hown, hgr⟩ := (HD.out.mp.kept hg (fun e => (HD.out.rowg HI.out e.symm).2.1 rfl)).update keyed Try.underlying87 (by have := HD.out.kc; have h2 : k ≤ s.c := this; have := HC.out; unfold maxLen; omega) (key_int (i : Int) (by have := HI.out; omega)) (show asIs v1 = some (.held v1, []) from rfl)
    have HO := Aside0.mk (And.intro ho (And.intro hg (And.intro hat (And.intro hown hgr))))
    have HSB := Aside0.mk (HS.out w3 ((Chg.of_below (below_drew1 (Below.refl _ _))).trans (Chg.of_grown hg (fun k hk => .inr hk)) (fun _ h => .inl h)))
    have HSE := Aside0.mk (HS.out w4 (((Chg.of_below (below_drew1 (Below.refl _ _))).trans (Chg.of_grown hg (fun k hk => .inr hk)) (fun _ h => .inl h)).trans (Chg.of_grown hgr (fun k hk => .inl (Option.some.inj hk).symm)) (fun _ h => .inl h)))
    clear ho hb hg hat hown hgr
    refine hK.out _ _ HSB.out (fun hHeld => ?_)
    clear hK K
    (try simp only [Act.put, List.setIfInBounds_toArray, List.set_cons_zero, List.set_cons_succ])
    refine wpAnyH_ready (rs := [16]) (by kernel_rfl) (by simp) ?_
    refine AllReadyH.cons (o := { dst := none, op := Go.Op.mapUpdate 87 (Go.Operand.tmp 27) (Go.Operand.tmp 28) (Go.Operand.tmp 39), type := 0, pos := "disk.go:73", after := #[{ on := 3, ground := Go.Ground.data }, { on := 4, ground := Go.Ground.data }, { on := 15, ground := Go.Ground.data }, { on := 15, ground := Go.Ground.chain }, { on := 0, ground := Go.Ground.phase }, { on := 1, ground := Go.Ground.phase }, { on := 2, ground := Go.Ground.phase }, { on := 3, ground := Go.Ground.phase }, { on := 4, ground := Go.Ground.phase }, { on := 5, ground := Go.Ground.phase }, { on := 6, ground := Go.Ground.phase }, { on := 7, ground := Go.Ground.phase }, { on := 8, ground := Go.Ground.phase }, { on := 9, ground := Go.Ground.phase }, { on := 10, ground := Go.Ground.phase }, { on := 11, ground := Go.Ground.phase }, { on := 12, ground := Go.Ground.phase }, { on := 13, ground := Go.Ground.phase }, { on := 14, ground := Go.Ground.phase }, { on := 15, ground := Go.Ground.phase }], guard := none }) rfl (fun K hK => ?_) AllReadyH.nil
    go_simp
    refine hK.out _ _ HSE.out (fun hHeld => ?_)
    clear hK K
    (try simp only [Act.put, List.setIfInBounds_toArray, List.set_cons_zero, List.set_cons_succ])
    refine wpAnyH_done (by kernel_rfl) ?_ _
    refine NoPanic.normal ?_
    go_wp2
    go_ret
    exact ⟨rfl, write_end HI.out HX.out HD.out HO.out⟩
  refine AllReadyH.cons (o := { dst := some 38, op := Go.Op.buildSlice 86 1 #[(0, Go.Operand.tmp 37)], type := 86, pos := "disk.go:73", after := #[{ on := 13, ground := Go.Ground.data }], guard := none }) rfl (fun K hK => ?_) AllReadyH.nil
  go_simp
  refine hK.out _ (w2.alloc (.cells cb.toArray 91)).drew HSA.out (fun hHeld => ?_)
  clear hK K
  (try simp only [Act.put, List.setIfInBounds_toArray, List.set_cons_zero, List.set_cons_succ])
  refine wpAnyH_ready (rs := [10]) (by kernel_rfl) (by simp) ?_
  refine AllReadyH.cons (o := { dst := some 34, op := Go.Op.lookup 87 (Go.Operand.tmp 32) (Go.Operand.tmp 33) false, type := 86, pos := "disk.go:73", after := #[{ on := 8, ground := Go.Ground.data }, { on := 9, ground := Go.Ground.data }], guard := none }) rfl (fun K hK => ?_) AllReadyH.nil
  go_simp
  refine hK.out _ (w2.alloc (.cells cb.toArray 91)).drew HSA.out (fun hHeld => ?_)
  clear hK K
  (try simp only [Act.put, List.setIfInBounds_toArray, List.set_cons_zero, List.set_cons_succ])
  refine wpAnyH_ready (rs := [15]) (by kernel_rfl) (by simp) ?_
  refine AllReadyH.cons (o := { dst := some 39, op := Go.Op.call { callee := Go.Callee.builtin Go.Builtin.append, args := #[Go.Operand.tmp 34, Go.Operand.tmp 38], argTypes := #[86, 86] }, type := 86, pos := "disk.go:73", after := #[{ on := 10, ground := Go.Ground.data }, { on := 14, ground := Go.Ground.data }], guard := none }) rfl (fun K hK => ?_) AllReadyH.nil
  (refine Kd.R_append_step sec (w0 := w2.drew) (W := w2.drew) base (by rfl) (.tmp 34) (.tmp 38) 86 91 (.agg (Array.replicate 512 (.int .u8 0))) 512 (by rfl) Try.underlying86 info91 (by simp [sec, Value.cells]) (by decide) (by decide) (f i) (s.W i) b cb (fun x => (f i).ownBlock = some x ∨ w2.drew.heap.size ≤ x) (fun _ => False) (by rfl) (by rfl) HSC.out (fun _ h => h.elim) (fun _ h => .inr h) (Kd.R_mono (HD.out.rows i HI.out) (fun _ h => .inl h)) (Below.refl _ _) (by have := HD.out.gb; have := blk_lt HD.out.hd; omega) (by have h3 : (s.W i).length ≤ s.c := HD.out.wl i HI.out; have := HC.out; omega) ?_)
  intro v1 w3 ho hb hg hat
  obtain ⟨w4, hrun, hown, hgr⟩ := (HD.out.mp.kept hg (fun e => (HD.out.rowg HI.out e.symm).2.1 rfl)).update keyed Try.underlying87 (by have := HD.out.kc; have h2 : k ≤ s.c := this; have := HC.out; unfold maxLen; omega) (key_int (i : Int) (by have := HI.out; omega)) (show asIs v1 = some (.held v1, []) from rfl)
  have HO := Aside0.mk (And.intro ho (And.intro hg (And.intro hat (And.intro hown hgr))))
  have HSB := Aside0.mk (HS.out w3 ((Chg.of_below (below_drew1 (Below.refl _ _))).trans (Chg.of_grown hg (fun k hk => .inr hk)) (fun _ h => .inl h)))
  have HSE := Aside0.mk (HS.out w4 (((Chg.of_below (below_drew1 (Below.refl _ _))).trans (Chg.of_grown hg (fun k hk => .inr hk)) (fun _ h => .inl h)).trans (Chg.of_grown hgr (fun k hk => .inl (Option.some.inj hk).symm)) (fun _ h => .inl h)))
  clear ho hb hg hat hown hgr
  refine hK.out _ _ HSB.out (fun hHeld => ?_)
  clear hK K
  (try simp only [Act.put, List.setIfInBounds_toArray, List.set_cons_zero, List.set_cons_succ])
  refine wpAnyH_ready (rs := [16]) (by kernel_rfl) (by simp) ?_
  refine AllReadyH.cons (o := { dst := none, op := Go.Op.mapUpdate 87 (Go.Operand.tmp 27) (Go.Operand.tmp 28) (Go.Operand.tmp 39), type := 0, pos := "disk.go:73", after := #[{ on := 3, ground := Go.Ground.data }, { on := 4, ground := Go.Ground.data }, { on := 15, ground := Go.Ground.data }, { on := 15, ground := Go.Ground.chain }, { on := 0, ground := Go.Ground.phase }, { on := 1, ground := Go.Ground.phase }, { on := 2, ground := Go.Ground.phase }, { on := 3, ground := Go.Ground.phase }, { on := 4, ground := Go.Ground.phase }, { on := 5, ground := Go.Ground.phase }, { on := 6, ground := Go.Ground.phase }, { on := 7, ground := Go.Ground.phase }, { on := 8, ground := Go.Ground.phase }, { on := 9, ground := Go.Ground.phase }, { on := 10, ground := Go.Ground.phase }, { on := 11, ground := Go.Ground.phase }, { on := 12, ground := Go.Ground.phase }, { on := 13, ground := Go.Ground.phase }, { on := 14, ground := Go.Ground.phase }, { on := 15, ground := Go.Ground.phase }], guard := none }) rfl (fun K hK => ?_) AllReadyH.nil
  go_simp
  refine hK.out _ _ HSE.out (fun hHeld => ?_)
  clear hK K
  (try simp only [Act.put, List.setIfInBounds_toArray, List.set_cons_zero, List.set_cons_succ])
  refine wpAnyH_done (by kernel_rfl) ?_ _
  refine NoPanic.normal ?_
  go_wp2
  go_ret
  exact ⟨rfl, write_end HI.out HX.out HD.out HO.out⟩
end Go.Proofs.Ytddnhcnkjcdfgaa.M

namespace Go.Proofs.Ytddnhcnkjcdfgaa.M
open Go.RowKit Go.Maps Go.Proofs.YtddnhcnkjcdfgaaW.PrintWords Go.Proofs.YtddnhcnkjcdfgaaW.PrintLast Go.Proofs.YtddnhcnkjcdfgaaW.PrintMore
set_option linter.unusedVariables false
set_option linter.unusedSimpArgs false
def zA : Array Value := (nums .u8 zeros).toArray
theorem zA_size : zA.size = 512 := by unfold zA; rw [List.size_toArray, nums_length, zeros_len]
theorem size91 : (Try.prog.info? 91).map (·.size) = some 512 := by kernel_rfl
theorem zero91 (W : World) : (zeroValue 91).run Try.prog W = .ok (.agg zA) W := by
  obtain ⟨i, hi, hz, hsz, hby⟩ := info_parts info91
  have e : Value.agg zA = Value.agg (Array.replicate 512 (.int .u8 0)) := by unfold zA; rw [zeros_nums, Array.toArray_toList]
  rw [e]
  generalize Value.agg (Array.replicate 512 (.int .u8 0)) = zv at hz
  simp [zeroValue, typeInfo, Sem.run_bind, hi, hz]
theorem run_alloc91 (W : World) : (Instr.alloc 91 true (.tuple #[])).run Try.prog W = .ok (.pointer (some ⟨W.heap.size, 0, none⟩)) (W.alloc (.cells zA 91)) := by
  unfold Instr.alloc
  rw [Sem.run_bind, zero91]
  simp only [Result.andThen_ok]
  simp [newVar, newRow, Sem.run_bind, Value.cells]
theorem run_put91 (W : World) (c : Array Value) (c' : List Value) (hc : c.size = 512) (hc' : c'.length = 512) (h1 : ∀ v ∈ c', v.oneCell' = true) :
    (Instr.storeAt 91 (.pointer (some ⟨W.heap.size, 0, none⟩)) (.agg c'.toArray)).run Try.prog (W.alloc (.cells c 91)) = .ok () (W.alloc (.cells c'.toArray 91)) := by
  obtain ⟨i, hi, hz, hsz, hby⟩ := info_parts info91
  have h := run_storeCells_new (P := Try.prog) W 91 c c'.toArray (by rw [List.size_toArray, hc']; exact size91) (by simp [hc', hc]) (all_oneCell_toArray h1)
  simp only [List.toList_toArray] at h
  simp [Instr.storeAt, Instr.sureAddr, storeVar, sizeOf, typeInfo, hi, hsz, Value.cells, hc', h]
theorem slice91 (n : Nat) (W : World) : (Instr.sliceAt 91 (.pointer (some ⟨n, 0, none⟩)) none none none).run Try.prog W = .ok (.slice (some ⟨n, 0, none⟩) 512 512) W := by
  have ha : Try.prog.arrayLen 91 = 512 := by kernel_rfl
  have he : Try.prog.elem 91 = 5 := by kernel_rfl
  have hs : (sizeOf 5).run Try.prog W = .ok 1 W := by
    obtain ⟨i, hi, _, hsz, _⟩ := info_parts info5
    simp [sizeOf, typeInfo, hi, hsz]
  rw [run_sliceAt_array_all W 91 ⟨n, 0, none⟩ (by kernel_rfl), he, hs, ha]
  rfl
def DS.reads (s : DS) : DS := ⟨s.n, s.L, s.W, s.c, wrap64 (s.r + 1), s.wr, s.fl⟩
def DS.cur (s : DS) (i : Nat) : List Int := match (s.W i).getLast? with | some b => b | none => s.L.getD i []
theorem sec_at {w : World} {base b n c : Nat} {l : List (List Int)} (h : Rs w base (.slice (some ⟨b, 0, none⟩) n c) l) (i : Nat) (hi : i < n) :
    w.rangeAt b (i * 512) (nums .u8 (l.getD i [])) ∧ (l.getD i []).length = 512 ∧ w.there b (i * 512) 512 := by
  obtain ⟨cs, hl, hM, hc, hf⟩ := Kd.R_elem h [] (i : Int) (by omega) (by omega)
  rw [Int.toNat_natCast] at hM hc hf
  obtain ⟨h1, h2⟩ := hM
  refine ⟨fun j v hv => hc j v (by rw [h2]; exact hv), h1, fun j hj => ⟨?_, hf j⟩⟩
  have hj' : j < cs.length := by rw [hl]; exact hj
  have := hc j _ (List.getElem?_eq_getElem hj')
  show (w.cell? ⟨b, i * 512 + j, none⟩).isSome = true
  rw [show i * 512 + j = i * sec.sz + j from rfl, this]
  rfl
theorem nums_one (l : List Int) : ∀ v ∈ nums .u8 l, v.oneCell' = true := fun v hv => by obtain ⟨y, _, rfl⟩ := List.mem_map.1 hv; rfl
section
variable {ops : Array Oper} {rest : List Oper} {o : Oper} {a : Act} {Q : Exit → Act → World → Prop} {W : World}
theorem ld91 (x : Operand) (ho : o.op = .load 91 x) (hg : o.guard = none) (b off : Nat) (hx : a.eval x = .pointer (some ⟨b, off, none⟩)) (cs : List Value) (hl : cs.length = 512) (hr : W.rangeAt b off cs)
    (h : wpList Try.prog ops Q rest (a.put o.dst (.agg cs.toArray)) W) : wpList Try.prog ops Q (o :: rest) a W :=
  wpList_load_mid hg _ x ho b off hx cs _ hr Try.underlying91 rfl (by rw [hl]; exact size91) h
theorem al91 (ho : o.op = .alloc 91) (hg : o.guard = none) (n : Nat) (hn : W.heap.size = n)
    (h : wpList Try.prog ops Q rest (a.put o.dst (.pointer (some ⟨n, 0, none⟩))) (W.alloc (.cells zA 91))) : wpList Try.prog ops Q (o :: rest) a W := by
  subst hn
  refine Great.wpList_runTo hg _ rfl _ _ ?_ h
  unfold execOp
  rw [ho]
  simp only [Sem.run_bind, run_alloc91, Result.andThen_ok]
  rfl
theorem st91 (x y : Operand) (ho : o.op = .store 91 x y) (hg : o.guard = none) (hd : o.dst = none) (n : Nat) (hn : W.heap.size = n) (c : Array Value) (c' : List Value) (hc : c.size = 512) (hc' : c'.length = 512) (h1 : ∀ v ∈ c', v.oneCell' = true)
    (hx : a.eval x = .pointer (some ⟨n, 0, none⟩)) (hy : a.eval y = .agg c'.toArray)
    (h : wpList Try.prog ops Q rest a (W.alloc (.cells c'.toArray 91))) : wpList Try.prog ops Q (o :: rest) a (W.alloc (.cells c 91)) := by
  subst hn
  refine wpList_plain hg fun K hK => ?_
  unfold Oper.wp execOp
  rw [ho]
  simp only [hx, hy, Sem.run_bind, run_put91 W c c' hc hc' h1, Result.andThen_ok]
  show K (a.put o.dst undef) _
  rw [hd]
  exact hK _ _ h
end
theorem C_blk {W : World} {n ty : Nat} {l : List Int} (h : W.heap[n]? = some (.cells (nums .u8 l).toArray ty (0, 0))) (hl : l.length ≤ 9223372036854775807) : (Kd.int .u8).C W (some ⟨n, 0, none⟩) l.length l := by
  refine ⟨rfl, hl, fun _ => ⟨_, rfl, fun j p hp => ⟨[.int .u8 p], rfl, rfl, fun i u hu => ?_⟩⟩⟩
  match i, hu with
  | 0, hu =>
    have hu' : Value.int .u8 p = u := by simpa using hu
    subst hu'
    show W.cell? ((⟨n, 0, none⟩ : Addr).add (j * 1 + 0)) = _
    rw [Nat.mul_one, Nat.add_zero, Addr.add_mid, Nat.zero_add, blk_cell h]
    simp [nums, hp]
  | i + 1, hu => simp at hu
end Go.Proofs.Ytddnhcnkjcdfgaa.M

namespace Go.Proofs.Ytddnhcnkjcdfgaa.M
open Go.RowKit Go.Maps Go.Proofs.YtddnhcnkjcdfgaaW.PrintWords Go.Proofs.YtddnhcnkjcdfgaaW.PrintLast Go.Proofs.YtddnhcnkjcdfgaaW.PrintMore
set_option linter.unusedVariables false
set_option linter.unusedSimpArgs false
section
variable {w : World} {base g lb cp mb k : Nat} {s : DS} {f : Nat → Value} {D : DataW Value}
theorem cur_nil {i : Nat} (h : s.W i = []) : s.cur i = s.L.getD i [] := by unfold DS.cur; rw [h]; rfl
theorem cur_last {i : Nat} (h : s.W i ≠ []) : s.cur i = (s.W i).getD ((s.W i).length - 1) [] := by
  unfold DS.cur
  rw [List.getLast?_eq_getElem?, List.getD_eq_getElem?_getD]
  have : (s.W i).length - 1 < (s.W i).length := by
    have := List.length_pos_iff.2 h
    omega
  rw [List.getElem?_eq_getElem this, List.getD_eq_getElem?_getD, List.getElem?_eq_getElem this]
  rfl
end
theorem read_end {w w2 W w5 : World} {base g lb cp mb k : Nat} {s : DS} {f : Nat → Value} {D : DataW Value} {v : Value} {o : Obj} {l l' : List Int} (hx : Chg (fun x => x = g) w w2) (h : DkIn W base g s lb cp mb f k D) (hl : l' = l) (hW : W = w2.alloc o)
    (hr : Kd.R (Kd.int .u8) 5 w5 W.heap.size (fun _ => True) v l ∧ Below W.heap.size W w5) :
    ∃ v', Ending.returned (.tuple #[v, .int .i64 0]) = Ending.returned (.tuple #[v', .int .i64 0]) ∧ Kd.R (Kd.int .u8) 5 w5 w.heap.size (fun _ => True) v' l' ∧ DkIn w5 base g s lb cp mb f k D ∧ Chg (fun x => x = g) w w5 := by
  subst hl hW
  have hs : w2.heap.size ≤ (w2.alloc o).heap.size := by simp
  exact ⟨v, rfl, Kd.R_lower hr.1 (Nat.le_trans hx.size hs), h.chg (G := fun _ => False) (Chg.of_below hr.2) (fun _ _ => id), hx.trans (Chg.of_below (F := fun _ => False) (below_step (below_alloc (Below.refl _ _) o) hr.2)) (fun _ h => h.elim)⟩
set_option maxHeartbeats 1000000 in
set_option maxRecDepth 100000 in
theorem read_in (g i : Nat) (w : World) (base lb cp mb k : Nat) (f : Nat → Value) (D : DataW Value) (s : DS) (h : DkIn w base g s lb cp mb f k D) (hi : i < s.n) :
    Calls Try.prog 25 #[.pointer (some ⟨g, 0, none⟩), .int .i64 (i : Int)] w fun e w' => ∃ v, e = .returned (.tuple #[v, .int .i64 0]) ∧ Kd.R (Kd.int .u8) 5 w' w.heap.size (fun _ => True) v (s.cur i) ∧ DkIn w' base g s.reads lb cp mb f k D ∧ Chg (fun x => x = g) w w' := by
  have hn2 := h.n2
  have hnm := h.nm
  have hg0 : w.cell? ⟨g, 0, none⟩ = some (.slice (some ⟨lb, 0, none⟩) s.n cp) := blk_cell h.hd 0
  have hg2 : w.cell? ⟨g, 2, none⟩ = some (.int .i64 s.r) := blk_cell h.hd 2
  have hgf : w.frozen? ⟨g, 2, none⟩ = false := blk_frozen h.hd 2
  have Hout := Aside0.mk (show Calls Try.prog 41 #[.pointer (some ⟨g, 0, none⟩), .int .i64 (i : Int)] w fun e w' => e = .returned (.bool false) ∧ w' = w from by
    have h_ := outside_calls g (i : Int) s.n (some ⟨lb, 0, none⟩) cp w hg0
    rw [show (!decide (0 ≤ (i : Int) ∧ (i : Int) < (s.n : Int))) = false by simp; omega] at h_
    exact h_)
  have H1 := Aside0.mk (h.acts 2 (wrap64 (s.r + 1)) s.reads ⟨rfl, rfl, rfl, rfl⟩ rfl)
  have HX := Aside0.mk (Chg.setCell (F := fun x => x = g) (Chg.refl _ w) rfl 2 (.int .i64 (wrap64 (s.r + 1))))
  have HI := Aside0.mk hi
  have hi0 : (0 : Int) ≤ (i : Int) := by omega
  have hi1 : (i : Int) < (s.n : Int) := by omega
  clear h hi
  go_enter Try.func25, Try.ntmps25
  go_upto_region 4 with (go_at_call 41; (with_reducible refine Hout.out.mono ?_); rintro e w1 ⟨rfl, hw_⟩; subst hw_)
  clear hg0 hg2 hgf Hout
  generalize w1.setCell ⟨g, 2, none⟩ (.int .i64 (wrap64 (s.r + 1))) = w2 at H1 HX ⊢
  have hg0 : w2.cell? ⟨g, 0, none⟩ = some (.slice (some ⟨lb, 0, none⟩) s.n cp) := blk_cell H1.out.hd 0
  have hg1 : w2.cell? ⟨g, 1, none⟩ = some (.map (some mb)) := blk_cell H1.out.hd 1
  have HL := Aside0.mk (sec_at H1.out.la i HI.out)
  obtain ⟨bL, hbL⟩ : ∃ x, x = s.L.getD i [] := ⟨_, rfl⟩
  obtain ⟨hLr, hLl, _⟩ : w2.rangeAt lb (i * 512) (nums .u8 (s.L.getD i [])) ∧ (s.L.getD i []).length = 512 ∧ w2.there lb (i * 512) 512 := HL.out
  rw [← hbL] at hLr hLl
  have HbL := Aside0.mk hbL
  have HN := Aside0.mk nums_one
  go_upto_region 5 with (first
    | ((with_reducible refine gate_ (.load 91 (.tmp 25)) rfl ?_); refine ld91 (.tmp 25) rfl rfl lb (i * 512) rfl (nums .u8 bL) (by rw [nums_length, hLl]) hLr ?_)
    | ((with_reducible refine gate_ (.alloc 91) rfl ?_); refine al91 rfl rfl w2.heap.size rfl ?_)
    | ((with_reducible refine gate_ (.store 91 (.tmp 6) (.tmp 26)) rfl ?_); refine st91 (.tmp 6) (.tmp 26) rfl rfl rfl w2.heap.size rfl zA (nums .u8 bL) zA_size (by rw [nums_length, hLl]) (HN.out _) rfl rfl ?_))
  have hgl := blk_lt H1.out.hd
  obtain ⟨cb, hcb⟩ : ∃ x, x = nums .u8 bL := ⟨_, rfl⟩
  rw [← hcb]
  have HC := Aside0.mk hcb
  have hcbl : cb.length = 512 := by rw [hcb, nums_length, hLl]
  have H2 := Aside0.mk (H1.out.chg (w' := w2.alloc (.cells cb.toArray 91)) (G := fun _ => False) (Chg.of_below (below_alloc (Below.refl _ _) _)) (fun _ _ => id))
  have hg1' : (w2.alloc (.cells cb.toArray 91)).cell? ⟨g, 1, none⟩ = some (.map (some mb)) := blk_cell H2.out.hd 1
  obtain ⟨A7, c7, e7⟩ := Kd.R_slice (H2.out.rows i HI.out)
  have hlk : (Instr.lookup 87 (.map (some mb)) (.int .i64 (i : Int)) false).run Try.prog (w2.alloc (.cells cb.toArray 91)) = .ok (.slice A7 (s.W i).length c7) (w2.alloc (.cells cb.toArray 91)) := e7 ▸ H2.out.look i HI.out
  have HE := Aside0.mk e7
  clear hcb hLr hg0 hg1 e7
  have hsl := fun W => slice91 w2.heap.size W
  by_cases hW : s.W i = []
  · have hWl : (s.W i).length = 0 := by rw [hW]; rfl
    have HW := Aside0.mk hW
    rw [hWl] at hlk
    clear hW hWl
    have HCL := Aside0.mk (show Calls Try.prog 44 #[.slice (some ⟨w2.heap.size, 0, none⟩) 512 512] (w2.alloc (.cells cb.toArray 91)) fun e w' => ∃ v, e = .returned v ∧ Kd.R (Kd.int .u8) 5 w' (w2.alloc (.cells cb.toArray 91)).heap.size (fun _ => True) v bL ∧ Below (w2.alloc (.cells cb.toArray 91)).heap.size (w2.alloc (.cells cb.toArray 91)) w' from
      clone_calls ⟨w2.heap.size, 0, none⟩ 512 512 bL _ (hLl ▸ C_blk (by rw [HC.out]; exact blk_new w2 _) (by omega)) (by omega))
    go_wp2_with (go_at_call 44; (with_reducible refine HCL.out.mono ?_); rintro e w5 ⟨v, rfl, hr, hb⟩; have HR := Aside0.mk (And.intro hr hb); clear hr hb)
    go_ret2
    exact read_end HX.out H2.out (by rw [cur_nil HW.out, ← HbL.out]) rfl HR.out
  · have HW := Aside0.mk hW
    have hWl : 0 < (s.W i).length := List.length_pos_iff.2 hW
    have hWc : (s.W i).length ≤ 9223372036854775807 := (Kd.R_reads' (HE.out ▸ H2.out.rows i HI.out)).2.2.2.1
    obtain ⟨b7, c7', e8, _⟩ := Kd.R_form (H2.out.rows i HI.out) hWl
    obtain ⟨rfl, rfl⟩ : A7 = some ⟨b7, 0, none⟩ ∧ c7 = c7' := by rw [HE.out] at e8; cases e8; exact ⟨rfl, rfl⟩
    have hS7 := sec_at (HE.out ▸ H2.out.rows i HI.out : Rs _ base (.slice (some ⟨b7, 0, none⟩) (s.W i).length c7) (s.W i)) ((s.W i).length - 1) (by omega)
    rw [← cur_last hW] at hS7
    obtain ⟨hSr, hSl, _⟩ := hS7
    obtain ⟨bC, hbC⟩ : ∃ x, x = s.cur i := ⟨_, rfl⟩
    have HbC := Aside0.mk hbC
    rw [← hbC] at hSr hSl
    have HSr := Aside0.mk hSr
    generalize (s.W i).length = ln at *
    have HCL := Aside0.mk (show Calls Try.prog 44 #[.slice (some ⟨w2.heap.size, 0, none⟩) 512 512] (w2.alloc (.cells (nums .u8 bC).toArray 91)) fun e w' => ∃ v, e = .returned v ∧ Kd.R (Kd.int .u8) 5 w' (w2.alloc (.cells (nums .u8 bC).toArray 91)).heap.size (fun _ => True) v bC ∧ Below (w2.alloc (.cells (nums .u8 bC).toArray 91)).heap.size (w2.alloc (.cells (nums .u8 bC).toArray 91)) w' from
      clone_calls ⟨w2.heap.size, 0, none⟩ 512 512 bC _ (hSl ▸ C_blk (blk_new w2 _) (by omega)) (by omega))
    have H3 := Aside0.mk (H1.out.chg (w' := w2.alloc (.cells (nums .u8 bC).toArray 91)) (G := fun _ => False) (Chg.of_below (below_alloc (Below.refl _ _) _)) (fun _ _ => id))
    have hl0 : (0 : Int) < (ln : Int) := by omega
    have hl1 : (0 : Int) ≤ (ln : Int) - 1 := by omega
    have hl2 : (ln : Int) - 1 < (ln : Int) := by omega
    clear hW e8 hbC hSr
    go_wp2_with (first
      | ((with_reducible refine gate_ (.load 91 (.tmp 40)) rfl ?_); refine ld91 (.tmp 40) rfl rfl b7 ((ln - 1) * 512) rfl (nums .u8 bC) (by rw [nums_length, hSl]) HSr.out ?_)
      | ((with_reducible refine gate_ (.store 91 (.tmp 6) (.tmp 41)) rfl ?_); refine st91 (.tmp 6) (.tmp 41) rfl rfl rfl w2.heap.size rfl cb.toArray (nums .u8 bC) (by rw [List.size_toArray, hcbl]) (by rw [nums_length, hSl]) (HN.out _) rfl rfl ?_)
      | (go_at_call 44; (with_reducible refine HCL.out.mono ?_); rintro e w5 ⟨v, rfl, hr, hb⟩; have HR := Aside0.mk (And.intro hr hb); clear hr hb))
    go_ret2
    exact read_end HX.out H3.out HbC.out.symm rfl HR.out
end Go.Proofs.Ytddnhcnkjcdfgaa.M

namespace Go.Proofs.Ytddnhcnkjcdfgaa.M
open Go.RowKit Go.Maps Go.Proofs.YtddnhcnkjcdfgaaW.PrintWords Go.Proofs.YtddnhcnkjcdfgaaW.PrintLast Go.Proofs.YtddnhcnkjcdfgaaW.PrintMore
set_option linter.unusedVariables false
set_option linter.unusedSimpArgs false
abbrev KB : Kd (List Int) := Kd.slice 5 (Kd.int .u8)
theorem S_put {W0 W1 : World} {base g n c : Nat} {xs : List (List Int)} {v : Value} {x' : List Int} (h : Kd.S KB 28 W0 base (fun _ => True) (.slice (some ⟨g, 0, none⟩) n c) xs) (hb : Below W0.heap.size W0 W1) (i : Nat) (hi : i < n) (hr : Kd.R (Kd.int .u8) 5 W1 W0.heap.size (fun _ => True) v x') (hbase : base ≤ W0.heap.size) :
    Kd.S KB 28 (W1.setCell ⟨g, i, none⟩ v) base (fun _ => True) (.slice (some ⟨g, 0, none⟩) n c) (xs.set i x') := by
  obtain ⟨f, hf⟩ := Kd.S_old h hb
  have hg : g < W0.heap.size := Kd.S_lt h g rfl
  have h1 : (Kd.tag (fun k => if k < W0.heap.size then f k else i) KB).R 28 W1 base (fun k => True ∧ k < W0.heap.size) (.slice (some ⟨g, 0, none⟩) n c) xs.zipIdx := Kd.R_tag hf (fun k hk _ => if_pos hk.2)
  have h2 := Kd.R_mono h1 (ok' := fun _ => True) (fun _ _ => trivial)
  obtain ⟨c0, hl, hM, hc, hfz⟩ := Kd.R_elem h2 ([], 0) (i : Int) (by omega) (by omega)
  rw [Int.toNat_natCast] at hc
  have h3 := Kd.R_seg h2 (i : Int) (by omega) (by omega) (j := 0) (seg := [v]) hl (by rw [Int.toNat_natCast]; exact hc) (show 0 + 1 ≤ 1 by decide) (x' := (x', i)) (okp := fun k => W0.heap.size ≤ k) ?_ (fun k hk => ⟨trivial, by omega⟩)
  · obtain ⟨h3, _⟩ := h3
    rw [Int.toNat_natCast] at h3
    refine ⟨fun k => if k < W0.heap.size then f k else i, ?_⟩
    · rw [show (xs.set i x').zipIdx = xs.zipIdx.set i (x', i) by
        apply List.ext_getElem?
        intro q
        rw [List.getElem?_zipIdx, List.getElem?_set, List.getElem?_set, List.length_zipIdx]
        by_cases e : i = q
        · subst e
          rw [if_pos rfl, if_pos rfl]
          by_cases e2 : i < xs.length
          · rw [if_pos e2, if_pos e2]; simp
          · rw [if_neg e2, if_neg e2]; rfl
        · rw [if_neg e, if_neg e, List.getElem?_zipIdx]]
      have e : W1.setCells g (i * (Kd.tag (fun k => if k < W0.heap.size then f k else i) KB).sz + 0) [v] = W1.setCell ⟨g, i, none⟩ v := by
        show W1.setCell ⟨g, i * 1 + 0, none⟩ v = _
        rw [Nat.mul_one, Nat.add_zero]
      rw [e] at h3
      exact h3
  · have hl1 : c0.length = 1 := hl
    obtain ⟨u, rfl⟩ : ∃ u, c0 = [u] := by
      match c0, hl1 with
      | [u], _ => exact ⟨u, rfl⟩
    refine ⟨v, rfl, Kd.R_lower (Kd.R_mono (Kd.R_bound hr) (fun k hk => ⟨hk.2.1, ?_⟩)) hbase⟩
    show (if k < W0.heap.size then f k else i) = i
    rw [if_neg (by have := hk.2.1; omega)]
theorem take_set (L : List (List Int)) (i : Nat) (hi : i < L.length) : (L.take i ++ List.replicate (L.length - i) []).set i (L.getD i []) = L.take (i + 1) ++ List.replicate (L.length - (i + 1)) [] := by
  rw [List.set_append_right _ _ (by rw [List.length_take]; omega), List.length_take, Nat.min_eq_left (by omega), Nat.sub_self]
  obtain ⟨m, hm⟩ : ∃ m, L.length - i = m + 1 := ⟨L.length - i - 1, by omega⟩
  rw [hm, List.replicate_succ, List.set_cons_zero, show L.length - (i + 1) = m by omega, List.take_succ_eq_append_getElem hi, List.getD_eq_getElem?_getD, List.getElem?_eq_getElem hi]
  simp only [List.append_assoc, List.singleton_append, Option.getD_some]
theorem info28 : (Try.prog.info? 28).map (fun i => (i.zero, i.size, i.bytes)) = some (some (.slice none 0 0), 1, 24) := by kernel_rfl
set_option maxHeartbeats 1000000 in
set_option maxRecDepth 100000 in
theorem image_in (g : Nat) (w : World) (base lb cp mb k : Nat) (f : Nat → Value) (D : DataW Value) (s : DS) (h : DkIn w base g s lb cp mb f k D) :
    Calls Try.prog 26 #[.pointer (some ⟨g, 0, none⟩)] w fun e w' => ∃ go c, e = .returned (.slice (some ⟨go, 0, none⟩) s.n c) ∧ Kd.S KB 28 w' w.heap.size (fun _ => True) (.slice (some ⟨go, 0, none⟩) s.n c) s.L ∧ Below w.heap.size w w' := by
  have hn2 := h.n2
  have hnm := h.nm
  have hgl := blk_lt h.hd
  have hLn : s.L.length = s.n := (Kd.R_reads' h.la).1.symm
  have hg0 : w.cell? ⟨g, 0, none⟩ = some (.slice (some ⟨lb, 0, none⟩) s.n cp) := blk_cell h.hd 0
  have H := Aside0.mk h
  have HLN := Aside0.mk hLn
  have HL5 := Aside0.mk (fun x hx => h.la.each x hx)
  clear h hLn
  generalize hn : s.n = n at *
  have HN := Aside0.mk hn
  clear hn
  go_enter Try.func26, Try.ntmps26
  go_upto_region 2 with (at_make; refine Kd.S_make KB (w0 := w) w.heap.size 28 rfl (N := 11) rfl 37 (.tmp 10) (.tmp 10) rfl (n : Int) rfl rfl Try.underlying37 (.slice none 0 0) 24 info28 rfl (by decide) (by decide) [] (ok := fun _ => True) (okp := fun _ => True) ?mz (fun _ _ => trivial) trivial (by omega) ?ml (Below.refl _ _) (Nat.le_refl _) ?_; (case mz => exact ⟨_, rfl, Kd.R_nil _ _ _ _ _⟩); (case ml => omega); intro v11 w2 hr hb hg hat; rw [Int.toNat_natCast] at hr; obtain ⟨go, co, e11, hgo, _, _⟩ := Kd.S_form hr (by rw [List.length_replicate]; omega); rw [List.length_replicate] at e11; subst e11; have HR := Aside0.mk hr; have HB := Aside0.mk hb; have hg0' : w2.cell? ⟨g, 0, none⟩ = some (.slice (some ⟨lb, 0, none⟩) n cp) := (hb.cell hgl).trans hg0; clear hr hb hg hat hgo)
  go_wp2
  go_loopg [17] n (fun k v17 wr => ∃ (i : Nat), v17 = .int .i64 i ∧ Aside0 (i + k = n) ∧ Aside0 (Kd.S KB 28 wr w.heap.size (fun _ => True) (.slice (some ⟨go, 0, none⟩) n co) (s.L.take i ++ List.replicate (n - i) [])) ∧ Aside0 (Below w.heap.size w wr))
  case atStart => exact ⟨0, rfl, ⟨Nat.zero_add _⟩, ⟨by simpa using HR.out⟩, HB⟩
  case round =>
    clear HR HB hg0'
    obtain ⟨i, rfl, HI, HR, HB⟩ := hrel
    have hD := H.out.chg (G := fun _ => False) (Chg.of_below HB.out) (fun _ _ => id)
    by_cases hi : i < n
    · have hi1 : (i : Int) < (n : Int) := by omega
      have hi0 : (0 : Int) ≤ (i : Int) := by omega
      have HII := Aside0.mk hi
      obtain ⟨bL, hbL⟩ : ∃ x, x = s.L.getD i [] := ⟨_, rfl⟩
      have hS := sec_at hD.la i (by rw [HN.out]; exact hi)
      rw [← hbL] at hS
      have HS := Aside0.mk hS
      have HbL := Aside0.mk hbL
      have hiw : wrap64 ((i : Int) + 1) = ((i + 1 : Nat) : Int) := by unfold wrap64; omega
      clear hi hS hbL hD
      go_upto_region 5 with (first
        | ((with_reducible refine gate_ (.load 91 (.tmp 20)) rfl ?_); refine ld91 (.tmp 20) rfl rfl lb (i * 512) rfl (nums .u8 bL) (by rw [nums_length, HS.out.2.1]) HS.out.1 ?_)
        | ((with_reducible refine gate_ (.alloc 91) rfl ?_); refine al91 rfl rfl wr.heap.size rfl ?_)
        | ((with_reducible refine gate_ (.store 91 (.tmp 5) (.tmp 21)) rfl ?_); refine st91 (.tmp 5) (.tmp 21) rfl rfl rfl wr.heap.size rfl zA (nums .u8 bL) zA_size (by rw [nums_length, HS.out.2.1]) (nums_one _) rfl rfl ?_))
      have HR4 := Aside0.mk (Kd.S_alloc HR.out (.cells (nums .u8 bL).toArray 91))
      have HB4 := Aside0.mk (below_alloc HB.out (.cells (nums .u8 bL).toArray 91))
      have HCL := Aside0.mk (clone_calls ⟨wr.heap.size, 0, none⟩ 512 512 bL (wr.alloc (.cells (nums .u8 bL).toArray 91)) (HS.out.2.1 ▸ C_blk (blk_new wr _) (by rw [HS.out.2.1]; decide)) (by decide))
      have hsl := fun W => slice91 wr.heap.size W
      clear HS
      generalize wr.alloc (.cells (nums .u8 bL).toArray 91) = w4 at HR4 HB4 HCL ⊢
      generalize wr.heap.size = ns at HCL hsl ⊢
      have HF := Aside0.mk (fun (W : World) (hb : Below w4.heap.size w4 W) => (show (∃ u, W.cell? ⟨go, i, none⟩ = some u) ∧ W.frozen? ⟨go, i, none⟩ = false from by
        obtain ⟨c, hl, _, hc, hf⟩ := Kd.R_elem (Kd.S_R (Kd.S_below HR4.out hb)) [] (i : Int) (by omega) (by have := HII.out; omega)
        rw [Int.toNat_natCast] at hc hf
        have hl1 : c.length = 1 := hl
        obtain ⟨u, rfl⟩ : ∃ u, c = [u] := by
          match c, hl1 with
          | [u], _ => exact ⟨u, rfl⟩
        have h1 := hc 0 u rfl
        have h2 := hf 0
        have e : i * KB.sz + 0 = i := Nat.mul_one i
        rw [e] at h1 h2
        exact ⟨⟨u, h1⟩, h2⟩))
      go_wp2_with (go_at_call 44; (with_reducible refine HCL.out.mono ?_); rintro e w5 ⟨v, rfl, hr, hb⟩; obtain ⟨A9, c9, e9⟩ := Kd.R_slice hr; subst e9; obtain ⟨⟨u, hu⟩, hf⟩ := HF.out w5 hb; have H5 := Aside0.mk (And.intro hr hb); clear hr hb)
      go_roundg (gk - 1)
      case measure => (have := HI.out; have := HII.out; omega)
      case rel =>
        have hp := S_put HR4.out H5.out.2 i HII.out H5.out.1 HB4.out.size
        have hbg := (below_step HB4.out H5.out.2).setCell (p := ⟨go, i, none⟩) (Kd.S_base HR4.out go rfl) (.slice A9 bL.length c9)
        have ht := take_set s.L i (by rw [HLN.out]; exact HII.out)
        rw [HLN.out, ← HbL.out] at ht
        rw [ht] at hp
        exact ⟨i + 1, by first | rfl | rw [hiw], ⟨by have := HI.out; have := HII.out; omega⟩, ⟨hp⟩, ⟨hbg⟩⟩
    · have hi1 : ¬ ((i : Int) < (n : Int)) := by omega
      have hin : i = n := by have := HI.out; omega
      subst hin
      clear hi
      go_wp2
      go_ret
      refine ⟨go, co, rfl, ?_, HB.out⟩
      have h1 := HR.out
      rw [Nat.sub_self, List.replicate_zero, List.append_nil, List.take_of_length_le (by rw [HLN.out]; exact Nat.le_refl _)] at h1
      exact h1
end Go.Proofs.Ytddnhcnkjcdfgaa.M

namespace Go.Proofs.Ytddnhcnkjcdfgaa.M
open Go.RowKit Go.Maps Go.Proofs.YtddnhcnkjcdfgaaW.PrintWords Go.Proofs.YtddnhcnkjcdfgaaW.PrintLast Go.Proofs.YtddnhcnkjcdfgaaW.PrintMore
set_option linter.unusedVariables false
set_option linter.unusedSimpArgs false
open Go.ChangeMaps (setBlock)
def DS.flush (s : DS) : DS := ⟨s.n, (List.range s.n).map s.cur, fun _ => [], 0, s.r, s.wr, wrap64 (s.fl + 1)⟩
section
variable {w w' : World} {base g lb cp mb k : Nat} {F G : Nat → Prop} {s : DS} {f : Nat → Value} {D : DataW Value}
theorem DkIn.putL (h : DkIn w base g s lb cp mb f k D) (i : Nat) (hi : i < s.n) (b : List Int) (hb : b.length = 512) :
    DkIn (w.setCells lb (i * 512) (nums .u8 b)) base g ⟨s.n, s.L.set i b, s.W, s.c, s.r, s.wr, s.fl⟩ lb cp mb f k D ∧ w.grownBy (w.setCells lb (i * 512) (nums .u8 b)) (some lb) := by
  obtain ⟨c0, hl, hM, hc, hf⟩ := Kd.R_elem h.la [] (i : Int) (by omega) (by omega)
  have h3 := Kd.R_seg h.la (i : Int) (by omega) (by omega) (j := 0) (seg := nums .u8 b) hl hc (by show 0 + _ ≤ 512; rw [nums_length, hb]; decide) (x' := b) (okp := fun _ => False) ?_ (fun _ h => h.elim)
  · obtain ⟨h3, h4⟩ := h3
    rw [Int.toNat_natCast] at h3 h4
    have e : i * sec.sz + 0 = i * 512 := Nat.add_zero (i * 512)
    rw [e] at h3 h4
    have far := h4
    refine ⟨⟨blk_grown h.hd h4 (by have := h.lbg; simpa using this.symm), Rs.of h3, h.mp.kept h4 (by have := h.mbl; simpa using this), h.kc, h.at_, h.ks, fun j hj => (h.rows j hj).step (fun q hq hlt => h4.block q hlt (by have := (h.rowg hj hq).2.2; simpa using this)), h.wl, h.sep, h.sepl, h.gb, h.mbb, h.n2, h.nm⟩, h4⟩
  · refine ⟨hb, ?_⟩
    have hl' : c0.length = 512 := hl
    rw [List.take_zero, List.nil_append, List.drop_of_length_le (by rw [hl', nums_length, hb]; decide), List.append_nil]
theorem run_clear (hb : ∃ es ck, w.heap[mb]? = some (.map es ck)) (ty : TypeId) : ∃ ck, (Builtin.clear_ #[87] ty #[.map (some mb)]).run Try.prog w = .ok (.tuple #[]) (setBlock w mb (.map #[] ck)) := by
  obtain ⟨es, ck, hb⟩ := hb
  refine ⟨ck, ?_⟩
  simp [Builtin.clear_, run_underlying Try.underlying87, MapKept.run_getObj_map hb, MapKept.run_setObj_map _ hb, Result.andThen, setBlock]
theorem DkIn.clear (h : DkIn w base g s lb cp mb f k D) (ck : Nat) : DkIn (setBlock w mb (.map #[] ck)) base g ⟨s.n, s.L, fun _ => [], 0, s.r, s.wr, s.fl⟩ lb cp mb (fun _ => .slice none 0 0) 0 (.map []) ∧ Chg (fun x => x = mb) w (setBlock w mb (.map #[] ck)) := by
  obtain ⟨es, ck0, hb, r⟩ := h.mp
  have far : ∀ b, b ≠ mb → (setBlock w mb (.map #[] ck)).heap[b]? = w.heap[b]? := fun b hne => Go.ChangeMaps.heap_setBlock_other hb _ hne
  refine ⟨⟨(far g (fun e => h.mbg e.symm)).trans h.hd, h.la.step (fun b hb2 _ => far b (by cases hb2; exact fun e => h.mbl e.symm)), ⟨#[], ck, Go.ChangeMaps.heap_setBlock_same hb _, ⟨by simp, MapKept.stamped_empty ck, by simp⟩, Nat.le_refl _, rfl⟩, Nat.le_refl _, fun i _ => rfl, fun kl h => by simp [Maps.has] at h, fun i _ => ⟨fun k hk => by simp [Value.ownBlock] at hk, OwnRow.none_ _ _ _ _ _⟩, fun i _ => Nat.le_refl _, fun i j b _ _ h => by simp [Value.ownBlock] at h, fun i _ => by simp [Value.ownBlock], h.gb, h.mbb, h.n2, h.nm⟩, ⟨rfl, rfl, rfl, by simp [setBlock], fun b hlt hne => far b hne⟩⟩
end
end Go.Proofs.Ytddnhcnkjcdfgaa.M

namespace Go.Proofs.Ytddnhcnkjcdfgaa.M
open Go.RowKit Go.Maps Go.Proofs.YtddnhcnkjcdfgaaW.PrintWords Go.Proofs.YtddnhcnkjcdfgaaW.PrintLast Go.Proofs.YtddnhcnkjcdfgaaW.PrintMore
set_option linter.unusedVariables false
set_option linter.unusedSimpArgs false
open Go.ChangeMaps (setBlock)
def Half (s : DS) (left : Lit → Bool) (L : List (List Int)) : Prop := L.length = s.n ∧ ∀ j, j < s.n → L.getD j [] = if s.W j ≠ [] ∧ left (.int .i64 (j : Int)) = false then s.cur j else s.L.getD j []
theorem Half.step {s : DS} {left : Lit → Bool} {L : List (List Int)} (h : Half s left L) (i : Nat) (hi : i < s.n) (hW : s.W i ≠ []) : Half s (fun z => left z && !z.sameKey (.int .i64 (i : Int))) (L.set i (s.cur i)) := by
  refine ⟨by rw [List.length_set]; exact h.1, fun j hj => ?_⟩
  by_cases e : j = i
  · subst e
    have : (Lit.int .i64 (j : Int)).sameKey (.int .i64 (j : Int)) = true := WideAt.sameKey_self trivial
    rw [if_pos ⟨hW, by simp [this]⟩, List.getD_eq_getElem?_getD, List.getElem?_set_self (by rw [h.1]; exact hj)]
    rfl
  · have hne : (Lit.int .i64 (j : Int)).sameKey (.int .i64 (i : Int)) = false := Maps.sameKey_ne (fun e2 => e (by injection e2 with _ e2; omega))
    rw [List.getD_eq_getElem?_getD, List.getElem?_set_ne (Ne.symm e), ← List.getD_eq_getElem?_getD, h.2 j hj]
    simp [hne]
theorem Half.done {s : DS} {left : Lit → Bool} {L : List (List Int)} (h : Half s left L) (hl : ∀ kl, left kl = false) : L = (List.range s.n).map s.cur := by
  apply List.ext_getElem?
  intro j
  by_cases hj : j < s.n
  · have h1 := h.2 j hj
    rw [List.getElem?_map, List.getElem?_range hj, List.getElem?_eq_getElem (by rw [h.1]; exact hj)]
    rw [List.getD_eq_getElem?_getD, List.getElem?_eq_getElem (by rw [h.1]; exact hj)] at h1
    show some _ = some _
    congr 1
    have h1 : L[j]'(by rw [h.1]; exact hj) = _ := h1
    rw [h1]
    by_cases hW : s.W j = []
    · rw [if_neg (fun e => e.1 hW), cur_nil hW]
    · rw [if_pos ⟨hW, hl _⟩]
  · rw [List.getElem?_eq_none (by rw [h.1]; omega), List.getElem?_eq_none (by simp; omega)]
theorem Half.start {w : World} {base g lb cp mb k : Nat} {s : DS} {f : Nat → Value} {D : DataW Value} (h : DkIn w base g s lb cp mb f k D) : Half s (Maps.has D) s.L := by
  refine ⟨(Kd.R_reads' h.la).1.symm, fun j hj => ?_⟩
  rw [if_neg]
  rintro ⟨h1, h2⟩
  have h3 := h.at_ j hj
  rw [Maps.atKey_of_not_has h2] at h3
  have h4 : f j = .slice none 0 0 := (DataW.held.inj h3).symm
  have h5 := h.rows j hj
  rw [h4] at h5
  have h6 := (Kd.R_reads' h5).1
  exact h1 (List.length_eq_zero_iff.1 h6.symm)
theorem DkIn.iter {w : World} {base g lb cp mb k r n : Nat} {s : DS} {f : Nat → Value} {D D' : DataW Value} {left : Lit → Bool} {cnt : Nat} (h : DkIn w base g s lb cp mb f k D) (hr : w.ranges Try.prog 3 asIs mb r n D' left cnt) : ¬ Fp g lb mb f s.n r := by
  have hne := hr.ne
  obtain ⟨es, clock, since, seen, c0, _, _, _, _, hb, _⟩ := hr
  rintro (e | e | e | ⟨i, hi, e⟩)
  · rw [e, h.hd] at hb; cases hb
  · obtain ⟨cs, hc⟩ := (h.la.typed rfl).2.2
    rw [e, hc] at hb; cases hb
  · exact hne e
  · obtain ⟨cs, hc⟩ := ((h.rows i hi).typed e).2.2
    rw [hc] at hb; cases hb
set_option maxHeartbeats 1000000 in
set_option maxRecDepth 100000 in
theorem flush_in (g : Nat) (w : World) (base lb cp mb k : Nat) (f : Nat → Value) (D : DataW Value) (s : DS) (h : DkIn w base g s lb cp mb f k D) :
    Calls Try.prog 17 #[.pointer (some ⟨g, 0, none⟩)] w fun e w' => (∃ v, e = .returned v) ∧ DkIn w' base g s.flush lb cp mb (fun _ => .slice none 0 0) 0 (.map []) ∧ Chg (fun x => x = g ∨ x = lb ∨ x = mb) w w' := by
  have hn2 := h.n2
  have hnm := h.nm
  have hg4 : w.cell? ⟨g, 4, none⟩ = some (.int .i64 s.fl) := blk_cell h.hd 4
  have hgf : w.frozen? ⟨g, 4, none⟩ = false := blk_frozen h.hd 4
  have H1 := Aside0.mk (h.acts 4 (wrap64 (s.fl + 1)) ⟨s.n, s.L, s.W, s.c, s.r, s.wr, wrap64 (s.fl + 1)⟩ ⟨rfl, rfl, rfl, rfl⟩ rfl)
  have HX := Aside0.mk (Chg.setCell (F := fun x => x = g ∨ x = lb ∨ x = mb) (Chg.refl _ w) (.inl rfl) 4 (.int .i64 (wrap64 (s.fl + 1))))
  clear h
  go_enter Try.func17, Try.ntmps17
  go_upto_region 1 with (fail)
  clear hg4 hgf
  generalize w.setCell ⟨g, 4, none⟩ (.int .i64 (wrap64 (s.fl + 1))) = w2 at H1 HX ⊢
  have hg1 : w2.cell? ⟨g, 1, none⟩ = some (.map (some mb)) := blk_cell H1.out.hd 1
  have HH := Aside0.mk (Half.start H1.out)
  go_wp2_with (at_range; refine wpList_range_own _ rfl _ 87 rfl 3 86 keyed Try.underlying87 asIs mb k D rfl H1.out.mp ?_; intro w3 hrg hgr hsz)
  have HR0 := Aside0.mk hrg
  have HD0 := Aside0.mk (H1.out.chg (G := fun _ => False) (Chg.of_grown hgr (fun _ h => by cases h)) (fun _ _ => id))
  have HX0 := Aside0.mk (HX.out.trans (Chg.of_grown (F := fun _ => False) hgr (fun _ h => by cases h)) (fun _ h => h.elim))
  have HRF := Aside0.mk HX.out.size
  clear hrg hgr hsz hg1
  generalize w2.heap.size = r at HR0 HRF ⊢
  go_loopg [] (Maps.size D) (fun q wr => ∃ (L : List (List Int)) (left : Lit → Bool), Aside0 (wr.ranges Try.prog 3 asIs mb r k D left q) ∧ Aside0 (DkIn wr base g ⟨s.n, L, s.W, s.c, s.r, s.wr, wrap64 (s.fl + 1)⟩ lb cp mb f k D) ∧ Aside0 (Half s left L) ∧ Aside0 (Chg (fun x => x = g ∨ x = lb ∨ x = mb) w wr))
  case atStart => exact ⟨s.L, _, HR0, HD0, ⟨HH.out⟩, HX0⟩
  case round =>
    clear HR0 HD0 HX0 HH
    obtain ⟨L, left, HR, HD, HF, HX1⟩ := hrel
    rcases HR.out.next keyed 0 with ⟨hc0, hl0, hrun⟩ | ⟨key, v, kl, y, w4, cnt, hkey, hlk, hv, hat, hrun, hrg, hlt, hgr, hsz, hen⟩
    · have hLd := HF.out.done hl0
      have hg1 : wr.cell? ⟨g, 1, none⟩ = some (.map (some mb)) := blk_cell HD.out.hd 1
      obtain ⟨ck, hclr⟩ := run_clear (by obtain ⟨es, ck, hb, _⟩ := HD.out.mp; exact ⟨es, ck, hb⟩) 0
      have HE := Aside0.mk (HD.out.clear ck)
      go_wp2
      refine bodyPost_end (results_none rfl _ _ _) rfl ?_
      refine ⟨⟨_, rfl⟩, ?_, HX1.out.trans HE.out.2 (fun x h => .inl (.inr (.inr h)))⟩
      have h1 := HE.out.1
      rw [hLd] at h1
      exact h1
    · obtain ⟨i, hi, rfl, hW⟩ := HD.out.ks kl (Maps.has_true_of_atKey hat)
      have hvf : v = f i := by
        have h1 := HD.out.at_ i hi
        rw [hat] at h1
        have h2 : some (DataW.held v, ([] : List MemPlace)) = some y := hv
        have h3 := congrArg Prod.fst (Option.some.inj h2)
        exact DataW.held.inj (h3.trans h1)
      subst hvf
      obtain ⟨x, rfl, hx, _⟩ := Maps.keyOf_int_inv Try.underlying3 hkey
      obtain rfl : x = (i : Int) := by injection hx with _ hx; exact hx.symm
      have hW : s.W i ≠ [] := hW
      have hi : i < s.n := hi
      have hit := HD.out.iter HR.out
      have HD4 := Aside0.mk (HD.out.chg (G := fun x => x = r) (Chg.of_grown hgr (fun x hx => (Option.some.inj hx).symm)) (fun x hx e => hit (e ▸ hx)))
      have hWl : 0 < (s.W i).length := List.length_pos_iff.2 hW
      have hrow := HD4.out.rows i hi
      have hWc : (s.W i).length ≤ 9223372036854775807 := by
        obtain ⟨A7, c7, e7⟩ := Kd.R_slice hrow
        exact (Kd.R_reads' (e7 ▸ hrow)).2.2.2.1
      obtain ⟨b7, c7, e7, _⟩ := Kd.R_form hrow hWl
      rw [e7] at hrow hrun hen
      have hS7 := sec_at hrow ((s.W i).length - 1) (show (s.W i).length - 1 < (s.W i).length by omega)
      have hcur : (s.W i).getD ((s.W i).length - 1) [] = s.cur i := (cur_last hW).symm
      have hS7' : w4.rangeAt b7 (((s.W i).length - 1) * 512) (nums .u8 (s.cur i)) ∧ (s.cur i).length = 512 := by
        rw [← hcur]; exact ⟨hS7.1, hS7.2.1⟩
      have HST := Aside0.mk (And.intro hi hW)
      have HIT := Aside0.mk hit
      have hth : w4.there lb (i * 512) 512 := (sec_at HD4.out.la i hi).2.2
      have hg0 : w4.cell? ⟨g, 0, none⟩ = some (.slice (some ⟨lb, 0, none⟩) s.n cp) := blk_cell HD4.out.hd 0
      have HRG := Aside0.mk hrg
      have HLT := Aside0.mk hlt
      have HX4 := Aside0.mk (HX1.out.trans (Chg.of_grown (F := fun x => x = r) hgr (fun x hx => (Option.some.inj hx).symm)) (fun x hx => .inr (by subst hx; exact HRF.out)))
      have hi0 : (0 : Int) ≤ (i : Int) := by omega
      have hi1 : (i : Int) < (s.n : Int) := by omega
      have hneb : b7 ≠ lb := by
        have h1 := HD4.out.rowg (b := b7) hi (by rw [e7]; rfl)
        exact h1.2.2
      have hlbg : lb ≠ g := HD4.out.lbg
      have Hcl := Aside0.mk hS7'.2
      obtain ⟨bC, hbC⟩ : ∃ x, x = s.cur i := ⟨_, rfl⟩
      have HbC := Aside0.mk hbC
      rw [← hbC] at hS7'
      obtain ⟨hSr, hSl⟩ := hS7'
      generalize (s.W i).length = ln at *
      have hl1 : (0 : Int) ≤ (ln : Int) - 1 := by omega
      have hl2 : (ln : Int) - 1 < (ln : Int) := by omega
      have hcl : (nums .u8 bC).length = 512 := by rw [nums_length, hSl]
      have hnb := nums_one bC
      have hu91 := Try.underlying91
      have hi91 : (Try.prog.info? 91).map (·.size) = some (nums .u8 bC).length := by rw [hcl]; exact size91
      have HSl := Aside0.mk hSl
      generalize hcb : nums .u8 bC = cb at *
      have HCB := Aside0.mk hcb
      clear hcb hit hrow e7 hS7 hcur hW hi hrg hlt hsz hgr hbC hlk hat hv hkey hx HD HR hSl
      have hlw : IntKind.i64.wrap ((ln : Int) - 1) = (ln : Int) - 1 := IntWalk.i64_in _ (by omega)
      have hlt0 : ((ln : Int) - 1).toNat = ln - 1 := by omega
      have hix : ∀ W : World, (Instr.indexAt 86 (.slice (some ⟨b7, 0, none⟩) ln c7) (.int .i64 ((ln : Int) - 1))).run Try.prog W = .ok (.pointer (some ⟨b7, (ln - 1) * 512, none⟩)) W := fun W => by go_simp; intro h; exact absurd h (by omega)
      go_wp2
      go_region_held3 (fun W => W.cell? ⟨g, 0, none⟩ = some (.slice (some ⟨lb, 0, none⟩) s.n cp) ∧ W.rangeAt b7 ((ln - 1) * 512) cb ∧ W.there lb (i * 512) 512) (first | assumption | (simp only [World.cell?_drew]; exact ⟨hg0, hSr, hth⟩) | exact ⟨(World.cell?_setCells_out lb cb _ _ _ (fun e => absurd e.symm hlbg)).trans hg0, World.rangeAt_setCells_apart (w := w4.drew) hSr lb _ cb (.inl hneb), World.there_setCells (w := w4.drew) hth lb _ cb⟩ | fail) (fail)
      have HP := (HD4.out.chg (G := fun _ => False) (w' := w4.drew) ⟨rfl, rfl, rfl, Nat.le_refl _, fun _ _ _ => rfl⟩ (fun _ _ => id)).putL i HST.out.1 (s.cur i) Hcl.out
      rw [← HbC.out, HCB.out] at HP
      have HR6 := Aside0.mk ((HRG.out.kept (row := none) (w' := w4.drew) ⟨rfl, rfl, rfl, Nat.le_refl _, fun _ _ _ => rfl⟩ (by simp) (by simp)).kept HP.2 (by have := HD4.out.mbl; simpa using this) (by have := HIT.out; simpa using fun e => this (.inr (.inl e))))
      have HD6 := Aside0.mk HP.1
      have HF6 := Aside0.mk (HF.out.step i HST.out.1 HST.out.2)
      have HX6 := Aside0.mk ((HX4.out.trans (b := w4) (c := w4.drew) (G := fun _ => False) ⟨rfl, rfl, rfl, Nat.le_refl _, fun _ _ _ => rfl⟩ (fun _ h => h.elim)).trans (Chg.of_grown (F := fun x => x = lb) HP.2 (fun x hx => (Option.some.inj hx).symm)) (fun x hx => .inl (.inr (.inl hx))))
      rw [HbC.out] at HD6
      clear HP hSr hth hg0 hix
      generalize w4.drew.setCells lb (i * 512) cb = w5 at HR6 HD6 HX6 ⊢
      go_wp2
      go_roundg cnt
      case rel => exact ⟨_, _, HR6, HD6, HF6, HX6⟩
      case measure => exact HLT.out
end Go.Proofs.Ytddnhcnkjcdfgaa.M

namespace Go.Proofs.Ytddnhcnkjcdfgaa.M
open Go.RowKit Go.Maps Go.Proofs.YtddnhcnkjcdfgaaW.PrintWords Go.Proofs.YtddnhcnkjcdfgaaW.PrintLast Go.Proofs.YtddnhcnkjcdfgaaW.PrintMore
set_option linter.unusedVariables false
set_option linter.unusedSimpArgs false
def flipL (q : Nat) (m : Int) (l : List Int) : List Int := l.set q (bits .xor .u8 (l.getD q 0) m)
theorem flipL_len (q : Nat) (m : Int) (l : List Int) : (flipL q m l).length = l.length := List.length_set
theorem nums_set (l : List Int) (q : Nat) (v : Int) : nums .u8 (l.set q v) = (nums .u8 l).set q (.int .u8 v) := by unfold nums; rw [List.map_set]
theorem Rs.put1 {w : World} {base b n c : Nat} {l : List (List Int)} (h : Rs w base (.slice (some ⟨b, 0, none⟩) n c) l) (i : Nat) (hi : i < n) (q : Nat) (hq : q < 512) (v : Int) :
    Rs (w.setCell ⟨b, i * 512 + q, none⟩ (.int .u8 v)) base (.slice (some ⟨b, 0, none⟩) n c) (l.set i ((l.getD i []).set q v)) ∧ w.grownBy (w.setCell ⟨b, i * 512 + q, none⟩ (.int .u8 v)) (some b) := by
  obtain ⟨c0, hl, hM, hc, hf⟩ := Kd.R_elem h [] (i : Int) (by omega) (by omega)
  have hl' : c0.length = 512 := hl
  obtain ⟨hM1, hM2⟩ : (l.getD i []).length = 512 ∧ c0 = nums .u8 (l.getD i []) := hM
  have h3 := Kd.R_seg h (i : Int) (by omega) (by omega) (j := q) (seg := [.int .u8 v]) hl hc (by show q + 1 ≤ 512; omega) (x' := (l.getD i []).set q v) (okp := fun _ => False) ⟨by rw [List.length_set]; exact hM1, by
    rw [nums_set, hM2, List.length_singleton]
    rw [hM2] at hl'
    rw [List.set_eq_take_append_cons_drop, if_pos (by rw [hl']; exact hq), List.append_assoc]
    rfl⟩ (fun _ h => h.elim)
  rw [Int.toNat_natCast] at h3
  exact ⟨Rs.of h3.1, h3.2⟩
theorem Rs.cell1 {w : World} {base b n c : Nat} {l : List (List Int)} (h : Rs w base (.slice (some ⟨b, 0, none⟩) n c) l) (i : Nat) (hi : i < n) (q : Nat) (hq : q < 512) :
    w.cell? ⟨b, i * 512 + q, none⟩ = some (.int .u8 ((l.getD i []).getD q 0)) ∧ w.frozen? ⟨b, i * 512 + q, none⟩ = false := by
  obtain ⟨c0, hl, hM, hc, hf⟩ := Kd.R_elem h [] (i : Int) (by omega) (by omega)
  obtain ⟨hM1, hM2⟩ : (l.getD i []).length = 512 ∧ c0 = nums .u8 (l.getD i []) := hM
  refine ⟨hc q _ ?_, hf q⟩
  rw [hM2]
  unfold nums
  rw [List.getElem?_map, List.getElem?_eq_getElem (by omega), List.getD_eq_getElem?_getD (l := l.getD i []), List.getElem?_eq_getElem (by omega)]
  rfl
section
variable {w : World} {base g lb cp mb k : Nat} {s : DS} {f : Nat → Value} {D : DataW Value}
theorem DkIn.putL1 (h : DkIn w base g s lb cp mb f k D) (i : Nat) (hi : i < s.n) (q : Nat) (hq : q < 512) (v : Int) :
    DkIn (w.setCell ⟨lb, i * 512 + q, none⟩ (.int .u8 v)) base g ⟨s.n, s.L.set i ((s.L.getD i []).set q v), s.W, s.c, s.r, s.wr, s.fl⟩ lb cp mb f k D ∧ w.grownBy (w.setCell ⟨lb, i * 512 + q, none⟩ (.int .u8 v)) (some lb) := by
  obtain ⟨h3, h4⟩ := h.la.put1 i hi q hq v
  exact ⟨⟨blk_grown h.hd h4 (by have := h.lbg; simpa using this.symm), h3, h.mp.kept h4 (by have := h.mbl; simpa using this), h.kc, h.at_, h.ks, fun j hj => (h.rows j hj).step (fun q hq hlt => h4.block q hlt (by have := (h.rowg hj hq).2.2; simpa using this)), h.wl, h.sep, h.sepl, h.gb, h.mbb, h.n2, h.nm⟩, h4⟩
theorem DkIn.putW1 (h : DkIn w base g s lb cp mb f k D) (i : Nat) (hi : i < s.n) {b7 c7 : Nat} (hf : f i = .slice (some ⟨b7, 0, none⟩) (s.W i).length c7) (j : Nat) (hj : j < (s.W i).length) (q : Nat) (hq : q < 512) (v : Int) :
    DkIn (w.setCell ⟨b7, j * 512 + q, none⟩ (.int .u8 v)) base g ⟨s.n, s.L, fun x => if x = i then (s.W i).set j (((s.W i).getD j []).set q v) else s.W x, s.c, s.r, s.wr, s.fl⟩ lb cp mb f k D ∧ w.grownBy (w.setCell ⟨b7, j * 512 + q, none⟩ (.int .u8 v)) (some b7) := by
  obtain ⟨h3, h4⟩ := (hf ▸ h.rows i hi).put1 j hj q hq v
  have hob : (f i).ownBlock = some b7 := by rw [hf]; rfl
  have hr := h.rowg hi hob
  refine ⟨⟨blk_grown h.hd h4 (by simpa using hr.1.symm), h.la.step (fun x hx hlt => h4.block x hlt (by cases hx; simpa using fun e => hr.2.2 e.symm)), h.mp.kept h4 (by simpa using hr.2.1.symm), h.kc, h.at_, fun kl hk => ?_, fun x hx => ?_, fun x hx => ?_, h.sep, h.sepl, h.gb, h.mbb, h.n2, h.nm⟩, h4⟩
  · obtain ⟨x, hx, e1, e2⟩ := h.ks kl hk
    refine ⟨x, hx, e1, ?_⟩
    show (if x = i then (s.W i).set j _ else s.W x) ≠ []
    split
    · intro e; have := congrArg List.length e; rw [List.length_set, List.length_nil] at this; omega
    · exact e2
  · show Rs _ base (f x) (if x = i then (s.W i).set j (((s.W i).getD j []).set q v) else s.W x)
    by_cases e : x = i
    · rw [if_pos e, e, hf]; exact h3
    · rw [if_neg e]
      exact (h.rows x hx).step (fun y hy hlt => h4.block y hlt (by intro e2; injection e2 with e2; exact e (h.sep x i b7 hx hi (e2 ▸ hy) hob)))
  · show (if x = i then (s.W i).set j _ else s.W x).length ≤ s.c
    split
    · rw [List.length_set]; exact h.wl i hi
    · exact h.wl x hx
end
end Go.Proofs.Ytddnhcnkjcdfgaa.M

namespace Go.Proofs.Ytddnhcnkjcdfgaa.M
open Go.RowKit Go.Maps Go.Proofs.YtddnhcnkjcdfgaaW.PrintWords Go.Proofs.YtddnhcnkjcdfgaaW.PrintLast Go.Proofs.YtddnhcnkjcdfgaaW.PrintMore
set_option linter.unusedVariables false
set_option linter.unusedSimpArgs false
structure Th where
  P : World → (Nat → Prop) → Prop
  foot : ∀ {w : World} {F : Nat → Prop}, P w F → ∀ b, F b → b < w.heap.size
  step : ∀ {w w' : World} {F : Nat → Prop}, P w F → (∀ b, F b → w'.heap[b]? = w.heap[b]?) → P w' F
def Hold (w : World) : List Th → (Nat → Prop) → Prop
  | [], _ => True
  | t :: L, U => ∃ F, t.P w F ∧ (∀ b, F b → U b) ∧ Hold w L (fun b => U b ∧ ¬ F b)
theorem Hold.mono {w : World} : ∀ {L : List Th} {U U' : Nat → Prop}, Hold w L U → (∀ b, U b → b < w.heap.size → U' b) → Hold w L U'
  | [], _, _, _, _ => trivial
  | t :: L, U, U', ⟨F, h1, h2, h3⟩, h => ⟨F, h1, fun b hb => h b (h2 b hb) (t.foot h1 b hb), Hold.mono h3 (fun b hb hlt => ⟨h b hb.1 hlt, hb.2⟩)⟩
theorem Hold.move {w w' : World} : ∀ {L : List Th} {U : Nat → Prop}, Hold w L U → (∀ b, U b → b < w.heap.size → w'.heap[b]? = w.heap[b]?) → Hold w' L U
  | [], _, _, _ => trivial
  | t :: L, U, ⟨F, h1, h2, h3⟩, h => ⟨F, t.step h1 (fun b hb => h b (h2 b hb) (t.foot h1 b hb)), h2, Hold.move h3 (fun b hb hlt => h b hb.1 hlt)⟩
theorem Hold.split {w : World} : ∀ {M L : List Th} {U : Nat → Prop}, Hold w (M ++ L) U → ∃ U1 : Nat → Prop, (∀ b, U1 b → U b) ∧ Hold w M U1 ∧ Hold w L (fun b => U b ∧ ¬ U1 b)
  | [], L, U, h => ⟨fun _ => False, fun _ h => h.elim, trivial, Hold.mono h (fun b hb _ => ⟨hb, fun h => h⟩)⟩
  | t :: M, L, U, ⟨F, h1, h2, h3⟩ => by
    obtain ⟨U1, e1, e2, e3⟩ := Hold.split (M := M) h3
    refine ⟨fun b => F b ∨ U1 b, fun b hb => hb.elim (h2 b) (fun h => (e1 b h).1), ⟨F, h1, fun b hb => .inl hb, Hold.mono e2 (fun b hb _ => ⟨.inr hb, (e1 b hb).2⟩)⟩, Hold.mono e3 (fun b hb _ => ⟨hb.1.1, fun h => h.elim hb.1.2 hb.2⟩)⟩
theorem Hold.append {w : World} : ∀ {M L : List Th} {U1 U2 U : Nat → Prop}, Hold w M U1 → Hold w L U2 → (∀ b, U1 b → U b ∧ ¬ U2 b) → (∀ b, U2 b → U b) → Hold w (M ++ L) U
  | [], L, U1, U2, U, _, h2, _, h4 => Hold.mono h2 (fun b hb _ => h4 b hb)
  | t :: M, L, U1, U2, U, ⟨F, h1, h2, h3⟩, h5, h6, h7 => ⟨F, h1, fun b hb => (h6 b (h2 b hb)).1, Hold.append (M := M) h3 h5 (fun b hb => ⟨⟨(h6 b hb.1).1, hb.2⟩, (h6 b hb.1).2⟩) (fun b hb => ⟨h7 b hb, fun hF => (h6 b (h2 b hF)).2 hb⟩)⟩
theorem Hold.perm {w : World} {L L' : List Th} (hp : L.Perm L') : ∀ {U : Nat → Prop}, Hold w L U → Hold w L' U := by
  induction hp with
  | nil => exact fun h => h
  | cons t _ ih => rintro U ⟨F, h1, h2, h3⟩; exact ⟨F, h1, h2, ih h3⟩
  | swap a b L =>
    rintro U ⟨F, h1, h2, G, g1, g2, h3⟩
    exact ⟨G, g1, fun x hx => (g2 x hx).1, F, h1, fun x hx => ⟨h2 x hx, fun hG => (g2 x hG).2 hx⟩, Hold.mono h3 (fun x hx _ => ⟨⟨hx.1.1, hx.2⟩, hx.1.2⟩)⟩
  | trans _ _ ih1 ih2 => exact fun h => ih2 (ih1 h)
structure Sep (w0 w : World) (L : List Th) : Prop where
  below : Below w0.heap.size w0 w
  hold : Hold w L (fun b => w0.heap.size ≤ b)
section
variable {w0 w w' : World} {L M N : List Th} {t t' : Th}
theorem Sep.refl (w : World) : Sep w w [] := ⟨Below.refl _ _, trivial⟩
theorem Sep.step (h : Sep w0 w L) (hb : Below w.heap.size w w') : Sep w0 w' L := ⟨below_step h.below hb, h.hold.move (fun b _ hlt => hb.block b hlt)⟩
theorem Sep.perm (h : Sep w0 w L) (hp : L.Perm M) : Sep w0 w M := ⟨h.below, h.hold.perm hp⟩
theorem Sep.up1 {a b : Th} (h : Sep w0 w (a :: b :: L)) : Sep w0 w (b :: a :: L) := h.perm (List.Perm.swap b a L)
theorem Sep.up2 {a b c : Th} (h : Sep w0 w (a :: b :: c :: L)) : Sep w0 w (c :: a :: b :: L) := h.perm (List.perm_middle (l₁ := [a, b]))
theorem Sep.up3 {a b c d : Th} (h : Sep w0 w (a :: b :: c :: d :: L)) : Sep w0 w (d :: a :: b :: c :: L) := h.perm (List.perm_middle (l₁ := [a, b, c]))
theorem Sep.up4 {a b c d e : Th} (h : Sep w0 w (a :: b :: c :: d :: e :: L)) : Sep w0 w (e :: a :: b :: c :: d :: L) := h.perm (List.perm_middle (l₁ := [a, b, c, d]))
theorem Sep.drop (h : Sep w0 w (t :: L)) : Sep w0 w L := by
  obtain ⟨hb, F, h1, h2, h3⟩ := h
  exact ⟨hb, h3.mono (fun b hb _ => hb.1)⟩
theorem Sep.split (h : Sep w0 w (M ++ L)) : ∃ U : Nat → Prop, Hold w M U ∧ (∀ b, U b → w0.heap.size ≤ b) ∧ ∀ (N : List Th) (w' : World), Hold w' N (fun b => U b ∨ w.heap.size ≤ b) → Chg U w w' → Sep w0 w' (N ++ L) := by
  obtain ⟨hb, h1⟩ := h
  obtain ⟨U1, e1, e2, e3⟩ := h1.split
  have hs := below_size hb
  refine ⟨U1, e2, e1, fun N w' hN hc => ⟨Chg.below hb hc hs e1, ?_⟩⟩
  have h4 : Hold w L (fun b => (w0.heap.size ≤ b ∧ ¬ U1 b) ∧ b < w.heap.size) := e3.mono (fun b hb hlt => ⟨hb, hlt⟩)
  exact hN.append (h4.move (fun b hU hlt => hc.block b hlt hU.1.2)) (fun b hb => ⟨hb.elim (e1 b) (Nat.le_trans hs), fun hx => hb.elim hx.1.2 (fun h => Nat.not_lt.2 h hx.2)⟩) (fun b hb => hb.1.1)
theorem Sep.open_ (h : Sep w0 w (t :: L)) : ∃ F, t.P w F ∧ (∀ b, F b → w0.heap.size ≤ b) ∧ ∀ (N : List Th) (w' : World), Hold w' N (fun b => F b ∨ w.heap.size ≤ b) → Chg F w w' → Sep w0 w' (N ++ L) := by
  obtain ⟨U, ⟨F, h1, h2, _⟩, h3, h4⟩ := Sep.split (M := [t]) h
  refine ⟨F, h1, fun b hb => h3 b (h2 b hb), fun N w' hN hc => h4 N w' (hN.mono (fun b hb _ => hb.imp (h2 b) id)) (hc.mono h2)⟩
theorem Sep.open1 (h : Sep w0 w (t :: L)) : ∃ F, t.P w F ∧ (∀ b, F b → w0.heap.size ≤ b) ∧ ∀ (t' : Th) (w' : World) (F' : Nat → Prop), t'.P w' F' → (∀ b, F' b → F b ∨ w.heap.size ≤ b) → Chg F w w' → Sep w0 w' (t' :: L) := by
  obtain ⟨F, h1, h2, h3⟩ := h.open_
  exact ⟨F, h1, h2, fun t' w' F' h4 h5 hc => h3 [t'] w' ⟨F', h4, h5, trivial⟩ hc⟩
theorem Sep.push (h : Sep w0 w L) (hb : Below w.heap.size w w') {F : Nat → Prop} (ht : t.P w' F) (hF : ∀ b, F b → w.heap.size ≤ b) : Sep w0 w' (t :: L) := by
  obtain ⟨U, _, _, h3⟩ := Sep.split (M := []) h
  exact h3 [t] w' ⟨F, ht, fun b hb => .inr (hF b hb), trivial⟩ ((Chg.of_below (F := fun _ => False) hb).mono (fun _ h => h.elim))
theorem Sep.get (h : Sep w0 w (t :: L)) : ∃ F, t.P w F ∧ ∀ b, F b → w0.heap.size ≤ b := by
  obtain ⟨F, h1, h2, _⟩ := h.open_
  exact ⟨F, h1, h2⟩
theorem Sep.conv (h : Sep w0 w (t :: L)) (hc : ∀ F, t.P w F → ∃ F', t'.P w F' ∧ ∀ b, F' b → F b) : Sep w0 w (t' :: L) := by
  obtain ⟨F, h1, _, h3⟩ := h.open1
  obtain ⟨F', h4, h5⟩ := hc F h1
  exact h3 t' w F' h4 (fun b hb => .inl (h5 b hb)) (Chg.refl _ _)
theorem Sep.size (h : Sep w0 w L) : w0.heap.size ≤ w.heap.size := below_size h.below
end
def noT : Th := ⟨fun _ _ => False, fun h => h.elim, fun h _ => h.elim⟩
theorem map_getD (L : List Th) : L = (List.range L.length).map (fun i => L.getD i noT) := by
  apply List.ext_getElem
  · simp
  · intro i h1 h2
    rw [List.getElem_map, List.getElem_range, List.getD_eq_getElem?_getD, List.getElem?_eq_getElem h1]
    rfl
theorem Sep.sel {w0 w : World} {L : List Th} (h : Sep w0 w L) (n : Nat) (idx : List Nat) (M : List Th) (hn : L.length = n) (hp : idx.Nodup ∧ ∀ i ∈ idx, i < n) (hM : idx.map (fun i => L.getD i noT) = M) : Sep w0 w M := by
  subst hn
  have h1 : (List.range L.length).Perm (idx ++ (List.range L.length).filter (fun i => decide (i ∉ idx))) := by
    rw [List.perm_ext_iff_of_nodup List.nodup_range (List.nodup_append.2 ⟨hp.1, List.nodup_range.filter _, fun a ha b hb e => by
      subst e
      have := (List.mem_filter.1 hb).2
      simp at this
      exact this ha⟩)]
    intro x
    rw [List.mem_append, List.mem_filter, List.mem_range]
    constructor
    · intro hx
      by_cases e : x ∈ idx
      · exact .inl e
      · exact .inr ⟨hx, by simpa using e⟩
    · rintro (e | ⟨e, _⟩)
      · exact hp.2 x e
      · exact e
  have h2 := h1.map (fun i => L.getD i noT)
  rw [← map_getD, List.map_append, hM] at h2
  obtain ⟨hb, hh⟩ := h.perm h2
  obtain ⟨U1, e1, e2, _⟩ := hh.split
  exact ⟨hb, e2.mono (fun b hb _ => e1 b hb)⟩
theorem same_lt {w w' : World} {b : Nat} (h : w'.heap[b]? = w.heap[b]?) (hb : b < w.heap.size) : b < w'.heap.size := by
  rw [Array.getElem?_eq_getElem hb] at h
  exact (Array.getElem?_eq_some_iff.1 h).1
def ownT {α : Type} (d : Kd α) (e : Nat) (v : Value) (xs : List α) : Th where
  P := fun w F => (∃ base, d.R e w base F v xs) ∧ ∀ b, F b → b < w.heap.size
  foot := fun h => h.2
  step := by
    rintro w w' F ⟨⟨base, h1⟩, h2⟩ h
    exact ⟨⟨base, Kd.R_step h1 (fun k hk _ => h k hk)⟩, fun b hb => same_lt (h b hb) (h2 b hb)⟩
def rowsT {α : Type} (d : Kd α) (e : Nat) (v : Value) (xs : List α) : Th where
  P := fun w F => (∃ base, Kd.S d e w base F v xs) ∧ ∀ b, F b → b < w.heap.size
  foot := fun h => h.2
  step := by
    rintro w w' F ⟨⟨base, h1⟩, h2⟩ h
    exact ⟨⟨base, Kd.S_step h1 (fun k hk _ => h k hk)⟩, fun b hb => same_lt (h b hb) (h2 b hb)⟩
def cellsT (g : Nat) (cs : Array Value) (e : Nat) : Th where
  P := fun w F => w.heap[g]? = some (.cells cs e (0, 0)) ∧ ∀ b, F b ↔ b = g
  foot := by
    rintro w F ⟨h1, h2⟩ b hb
    rw [(h2 b).1 hb]
    exact blk_lt h1
  step := by
    rintro w w' F ⟨h1, h2⟩ h
    exact ⟨(h g ((h2 g).2 rfl)).trans h1, h2⟩
section
variable {w0 w w' : World} {L : List Th} {α : Type} {d : Kd α} {e : Nat} {v : Value} {xs : List α}
theorem Sep.push_own {ok : Nat → Prop} (h : Sep w0 w L) (hr : d.R e w' w.heap.size ok v xs) (hb : Below w.heap.size w w') : Sep w0 w' (ownT d e v xs :: L) :=
  h.push (t := ownT d e v xs) hb (F := fun k => w.heap.size ≤ k ∧ k < w'.heap.size) ⟨⟨w.heap.size, Kd.R_mono (Kd.R_bound hr) (fun k hk => ⟨hk.2.1, hk.2.2.1⟩)⟩, fun b hb => hb.2⟩ (fun b hb => hb.1)
theorem Sep.push_rows {ok : Nat → Prop} (h : Sep w0 w L) (hr : Kd.S d e w' w.heap.size ok v xs) (hb : Below w.heap.size w w') : Sep w0 w' (rowsT d e v xs :: L) :=
  h.push (t := rowsT d e v xs) hb (F := fun k => w.heap.size ≤ k ∧ k < w'.heap.size) ⟨⟨w.heap.size, Kd.S_mono (Kd.S_bound hr) (fun k hk => ⟨hk.2.1, hk.2.2.1⟩)⟩, fun b hb => hb.2⟩ (fun b hb => hb.1)
theorem Sep.push_nil (h : Sep w0 w L) (d : Kd α) (e : Nat) : Sep w0 w (ownT d e (.slice none 0 0) [] :: L) :=
  h.push (t := ownT d e _ _) (Below.refl _ _) (F := fun _ => False) ⟨⟨0, Kd.R_nil _ _ _ _ _⟩, fun _ h => h.elim⟩ (fun _ h => h.elim)
theorem Sep.own (h : Sep w0 w (ownT d e v xs :: L)) : ∃ base ok, d.R e w base ok v xs := by
  obtain ⟨F, ⟨⟨base, h1⟩, _⟩, _⟩ := h.get
  exact ⟨base, F, h1⟩
theorem Sep.rows (h : Sep w0 w (rowsT d e v xs :: L)) : ∃ base ok, Kd.S d e w base ok v xs := by
  obtain ⟨F, ⟨⟨base, h1⟩, _⟩, _⟩ := h.get
  exact ⟨base, F, h1⟩
theorem Sep.rows_own (h : Sep w0 w (rowsT d e v xs :: L)) : Sep w0 w (ownT d e v xs :: L) :=
  h.conv (fun F hF => ⟨F, ⟨⟨hF.1.choose, Kd.S_R hF.1.choose_spec⟩, hF.2⟩, fun _ h => h⟩)
theorem Sep.cells {g : Nat} {cs : Array Value} (h : Sep w0 w (cellsT g cs e :: L)) : w.heap[g]? = some (.cells cs e (0, 0)) ∧ w0.heap.size ≤ g := by
  obtain ⟨F, h1, h2⟩ := h.get
  exact ⟨h1.1, h2 g ((h1.2 g).2 rfl)⟩
end
theorem Sep.put {α : Type} {enc : α → Value} {h1 : ∀ x, (enc x).oneCell' = true} {w0 w : World} {L : List Th} {e g n cap : Nat} {xs : List α} (h : Sep w0 w (ownT (Kd.scalar enc h1) e (.slice (some ⟨g, 0, none⟩) n cap) xs :: L)) (i : Nat) (x : α) :
    Sep w0 (w.setCell ⟨g, i, none⟩ (enc x)) (ownT (Kd.scalar enc h1) e (.slice (some ⟨g, 0, none⟩) n cap) (xs.set i x) :: L) := by
  obtain ⟨F, ⟨⟨base, h2⟩, h3⟩, h4, h5⟩ := h.open1
  refine h5 (ownT _ e _ _) _ F ⟨⟨base, ?_⟩, fun b hb => by simpa [World.setCell] using h3 b hb⟩ (fun b hb => .inl hb) ((Chg.refl F w).setCell (h2.1 g rfl) i _)
  have h6 := Kd.R_putn h2 (i : Int) x
  rwa [Int.toNat_natCast] at h6
theorem Sep.cell {α : Type} {enc : α → Value} {h1 : ∀ x, (enc x).oneCell' = true} {w0 w : World} {L : List Th} {e g n cap : Nat} {xs : List α} (dflt : α) (h : Sep w0 w (ownT (Kd.scalar enc h1) e (.slice (some ⟨g, 0, none⟩) n cap) xs :: L)) (i : Nat) (hi : i < n) :
    w.cell? ⟨g, i, none⟩ = some (enc (xs.getD i dflt)) ∧ w.frozen? ⟨g, i, none⟩ = false := by
  obtain ⟨base, ok, h2⟩ := h.own
  have h3 := Kd.R_celln dflt h2 (i : Int) (by omega) (by omega)
  rw [Int.toNat_natCast] at h3
  exact h3
theorem add0' (b j : Nat) : (⟨b, 0, none⟩ : Addr).add j = ⟨b, j, none⟩ := by simp [Addr.add]; intro h; omega
section
variable {w0 w : World} {L : List Th} {bw n cw : Nat} {l : List (List Int)}
theorem Sep.slot (h : Sep w0 w (ownT KB 28 (.slice (some ⟨bw, 0, none⟩) n cw) l :: L)) (i : Nat) (hi : i < n) :
    ∃ A c, w.cell? ⟨bw, i, none⟩ = some (.slice A (l.getD i []).length c) ∧ w.frozen? ⟨bw, i, none⟩ = false ∧ (Kd.int .u8).C w A (l.getD i []).length (l.getD i []) ∧ (l.getD i []).length ≤ c := by
  obtain ⟨base, ok, hr⟩ := h.own
  obtain ⟨hl, hl2, hC⟩ := Kd.R_reads' hr
  obtain ⟨adi, cei, ei, hcli, hKi, hcelli⟩ := Kd.C_get hC ([] : List Int) (i : Int) (by omega) (by omega)
  obtain ⟨Ai, ci, rfl, hli, hCi⟩ := hKi
  have hxi := hcelli 0 _ rfl
  rw [Int.toNat_natCast, show i * KB.sz + 0 = i from Nat.mul_one i] at hxi
  rw [Int.toNat_natCast] at hli hCi
  obtain rfl := Option.some.inj ei
  rw [add0'] at hxi
  obtain ⟨c, _, _, _, hf⟩ := Kd.R_elem hr [] (i : Int) (by omega) (by omega)
  have h2 := hf 0
  rw [Int.toNat_natCast, show i * KB.sz + 0 = i from Nat.mul_one i] at h2
  exact ⟨Ai, ci, hxi, h2, hCi, hli⟩
theorem Sep.put_row {v : Value} {x : List Int} (h : Sep w0 w (ownT (Kd.int .u8) 5 v x :: ownT KB 28 (.slice (some ⟨bw, 0, none⟩) n cw) l :: L)) (i : Nat) (hi : i < n) :
    Sep w0 (w.setCell ⟨bw, i, none⟩ v) (ownT KB 28 (.slice (some ⟨bw, 0, none⟩) n cw) (l.set i x) :: L) := by
  obtain ⟨U, ⟨F1, ⟨⟨b1, h1⟩, hlt1⟩, h2, F2, ⟨⟨b2, h4⟩, hlt2⟩, h5, _⟩, h6, h7⟩ := Sep.split (M := [ownT (Kd.int .u8) 5 v x, ownT KB 28 (.slice (some ⟨bw, 0, none⟩) n cw) l]) h
  have hbw : F2 bw := h4.1 bw rfl
  have hr : Kd.R KB 28 w 0 (fun k => F1 k ∨ F2 k) (.slice (some ⟨bw, 0, none⟩) n cw) l := Kd.R_mono (Kd.R_lower h4 (Nat.zero_le _)) (fun _ hk => .inr hk)
  obtain ⟨c0, hl, hM, hc, hfz⟩ := Kd.R_elem hr [] (i : Int) (by omega) (by omega)
  rw [Int.toNat_natCast] at hc
  have h3 := Kd.R_seg hr (i : Int) (by omega) (by omega) (j := 0) (seg := [v]) hl (by rw [Int.toNat_natCast]; exact hc) (show 0 + 1 ≤ 1 by decide) (x' := x) (okp := F1) (by
    have hl1 : c0.length = 1 := hl
    obtain ⟨u, rfl⟩ : ∃ u, c0 = [u] := by
      match c0, hl1 with
      | [u], _ => exact ⟨u, rfl⟩
    exact ⟨v, rfl, Kd.R_lower h1 (Nat.zero_le _)⟩) (fun k hk => ⟨.inl hk, fun e => (h5 bw hbw).2 (e ▸ hk)⟩)
  obtain ⟨h3, _⟩ := h3
  rw [Int.toNat_natCast] at h3
  have e : w.setCells bw (i * KB.sz + 0) [v] = w.setCell ⟨bw, i, none⟩ v := by
    show w.setCell ⟨bw, i * 1 + 0, none⟩ v = _
    rw [Nat.mul_one, Nat.add_zero]
  rw [e] at h3
  refine h7 [ownT KB 28 _ _] _ ⟨fun k => F1 k ∨ F2 k, ⟨⟨0, h3⟩, fun b hb => by simpa [World.setCell] using hb.elim (hlt1 b) (hlt2 b)⟩, fun b hb => .inl (hb.elim (h2 b) (fun h => (h5 b h).1)), trivial⟩ ((Chg.refl U w).setCell (h5 bw hbw).1 i v)
end
end Go.Proofs.Ytddnhcnkjcdfgaa.M

namespace Go.Proofs.Ytddnhcnkjcdfgaa.P
open Go.RowKit Go.Proofs.YtddnhcnkjcdfgaaW.PrintWords Go.Proofs.YtddnhcnkjcdfgaaW.PrintLast Go.Proofs.YtddnhcnkjcdfgaaW.PrintMore
attribute [local go_sem] max2_int min2_int max_two min_two max_three min_three max_four min_four   -- for this text's walks alone
set_option linter.unusedVariables false
set_option linter.unusedSimpArgs false
def errW : Option Int → Value
  | none => .nilIface
  | some c => .iface 0 (.int .i64 c)
theorem errW_none : errW none = .nilIface := rfl
theorem errW_some (c : Int) : errW (some c) = .iface 0 (.int .i64 c) := rfl
theorem info3 : (Try.prog.info? 3).map (fun i => (i.zero, i.size, i.bytes)) = some (some (.int .i64 0), 1, 8) := by kernel_rfl
theorem info5 : (Try.prog.info? 5).map (fun i => (i.zero, i.size, i.bytes)) = some (some (.int .u8 0), 1, 1) := by kernel_rfl
theorem info106 : (Try.prog.info? 106).map (fun i => (i.zero, i.size, i.bytes)) = some (some (.agg #[(.int .i64 0), (.slice none 0 0)]), 2, 32) := by kernel_rfl
def rd_L2 (xs : List (List Int)) (i : Int) : (List Int) := xs.getD i.toNat ([] : List Int)
theorem at_L2 {w : World} {A : Option Addr} {n : Nat} {xs : List (List Int)} (h : Kd.C (Kd.slice 5 (Kd.int .u8)) w A n xs) (i : Int) (h0 : 0 ≤ i) (h1 : i < n) : ∃ ad A0 c0, A = some ad ∧ w.cell? (ad.add i.toNat) = some (.slice A0 (rd_L2 xs i).length c0) ∧ (rd_L2 xs i).length ≤ c0 ∧ (Kd.int .u8).C w A0 (rd_L2 xs i).length (rd_L2 xs i) := by
  obtain ⟨ad, c, e, _, hK, hc0⟩ := Kd.C_get h ([] : List Int) i h0 h1
  have hc : ∀ j u, c[j]? = some u → w.cell? (ad.add (i.toNat * 1 + j)) = some u := hc0
  obtain ⟨A0, c0, rfl, l0, g0⟩ := hK
  exact ⟨ad, A0, c0, e, by have hq := hc 0 _ rfl; rwa [Nat.mul_one, Nat.add_zero] at hq, l0, g0⟩
structure S30 where
  f0 : Int
  f1 : (List Int)
def z30 : S30 := ⟨(0 : Int), ([] : List Int)⟩
def rd_T30 (xs : List S30) (i : Int) : S30 := xs.getD i.toNat z30
structure S106 where
  f0 : Int
  f1 : (List Int)
def z106 : S106 := ⟨(0 : Int), ([] : List Int)⟩
def k106 : Kd S106 := Kd.iso (Kd.pair (Kd.int .i64) (Kd.slice 5 (Kd.int .u8))) (fun x : S106 => (x.f0, x.f1))
theorem k106_heap : Kd.Heap k106 := Kd.heap_iso _ (Kd.heap_pair (Kd.heap_int .i64) (Kd.heap_slice 5 (Kd.heap_int .u8)))
theorem k106_open {w : World} {x : S106} {cs : List Value} (h : k106.K w x cs) : ∃ A1 c1, cs = [.int .i64 x.f0, .slice A1 x.f1.length c1] ∧ x.f1.length ≤ c1 ∧ (Kd.int .u8).C w A1 x.f1.length x.f1 := by
  obtain ⟨_, _, rfl, rfl, ⟨A1, c1, rfl, l1, g1⟩⟩ := h
  exact ⟨A1, c1, rfl, l1, g1⟩
theorem k106_mk (w : World) (x : S106) {A1 : Option Addr} {c1 : Nat} (l1 : x.f1.length ≤ c1) (g1 : (Kd.int .u8).C w A1 x.f1.length x.f1) : k106.K w x [.int .i64 x.f0, .slice A1 x.f1.length c1] := ⟨[.int .i64 x.f0], [.slice A1 x.f1.length c1], rfl, rfl, ⟨A1, c1, rfl, l1, g1⟩⟩
theorem k106_mkM (w : World) (base : Nat) (ok : Nat → Prop) (x : S106) {v1 : Value} (g1 : (Kd.int .u8).R 5 w base ok v1 x.f1) : k106.M w base ok x [.int .i64 x.f0, v1] := ⟨[.int .i64 x.f0], [v1], rfl, rfl, ⟨v1, rfl, g1⟩⟩
theorem k106_openF {W : World} {ok : Nat → Prop} {x : S106} {cs : List Value} (h : Kd.FK k106 W ok x cs) : ∃ A1 c1, cs = [.int .i64 x.f0, .slice A1 x.f1.length c1] ∧ x.f1.length ≤ c1 ∧ Kd.F (Kd.int .u8) W ok A1 x.f1.length x.f1 := by
  obtain ⟨A1, c1, rfl, l1, _⟩ := k106_open (Kd.FK_now h)
  exact ⟨A1, c1, rfl, l1, (fun W' hW => by obtain ⟨A1_, c1_, he, l1_, g1_⟩ := k106_open (h W' hW); injection (Option.some.inj (show some (Value.slice A1 x.f1.length c1) = some (Value.slice A1_ x.f1.length c1_) from congrArg (fun l => l[1]?) he)) with ha_ _ _; rw [ha_]; exact g1_)⟩
theorem k106_mkF (W : World) (ok : Nat → Prop) (x : S106) {A1 : Option Addr} {c1 : Nat} (l1 : x.f1.length ≤ c1) (g1 : Kd.F (Kd.int .u8) W ok A1 x.f1.length x.f1) : Kd.FK k106 W ok x [.int .i64 x.f0, .slice A1 x.f1.length c1] := fun W2 hW => k106_mk W2 x l1 (g1 W2 hW)
def rd_T106 (xs : List S106) (i : Int) : S106 := xs.getD i.toNat z106
theorem at_T106 {w : World} {A : Option Addr} {n : Nat} {xs : List S106} (h : Kd.C k106 w A n xs) (i : Int) (h0 : 0 ≤ i) (h1 : i < n) : ∃ ad A1 c1, A = some ad ∧ w.cell? (ad.add (i.toNat * 2)) = some (.int .i64 (rd_T106 xs i).f0) ∧ w.cell? ⟨(ad.add (i.toNat * 2)).block, (ad.add (i.toNat * 2)).off + 1, none⟩ = some (.slice A1 (rd_T106 xs i).f1.length c1) ∧ (rd_T106 xs i).f1.length ≤ c1 ∧ (Kd.int .u8).C w A1 (rd_T106 xs i).f1.length (rd_T106 xs i).f1 := by
  obtain ⟨ad, c, e, _, hK, hc0⟩ := Kd.C_get h z106 i h0 h1
  have hc : ∀ j u, c[j]? = some u → w.cell? (ad.add (i.toNat * 2 + j)) = some u := hc0
  obtain ⟨A1, c1, rfl, l1, g1⟩ := k106_open hK
  exact ⟨ad, A1, c1, e, hc 0 _ rfl, by rw [← add_field _ _ 1 (by omega)]; exact hc 1 _ rfl, l1, g1⟩
end Go.Proofs.Ytddnhcnkjcdfgaa.P

namespace Go.Proofs.Ytddnhcnkjcdfgaa.P
open Go.RowKit Go.Proofs.YtddnhcnkjcdfgaaW.PrintWords Go.Proofs.YtddnhcnkjcdfgaaW.PrintLast Go.Proofs.YtddnhcnkjcdfgaaW.PrintMore
attribute [local go_sem] max2_int min2_int max_two min_two max_three min_three max_four min_four   -- for this text's walks alone
set_option linter.unusedVariables false
set_option linter.unusedSimpArgs false
def kilnlaw3_sector.l0 : Nat → List Int → List Int → Int → Option (List Int)
  | 0, _, _, _ => none
  | k + 1, x0, x3, x4 => if x4 < (x3.length : Int) then (if (x0.length : Int) > 0 then (if (x0.length : Int) = 0 then (none) else (if 0 ≤ (Int.tmod x4 (x0.length : Int)) then (if (Int.tmod x4 (x0.length : Int)) < (x0.length : Int) then (if 0 ≤ x4 then (kilnlaw3_sector.l0 k x0 (x3.set (x4 : Int).toNat (rd x0 (Int.tmod x4 (x0.length : Int)))) (wrap64 (x4 + 1))) else (none)) else (none)) else (none))) else (some x3)) else (some x3)
def kilnlaw3_sector.f (k : Nat) (l0 : List Int) : Option (List Int) := if 512 ≤ 281474976710656 then (kilnlaw3_sector.l0 k l0 (List.replicate 512 0) 0) else (none)
theorem kilnlaw3_sector.mono_l : ∀ k, (∀ y0 y1 y2, LeO (kilnlaw3_sector.l0 k y0 y1 y2) (kilnlaw3_sector.l0 (k + 1) y0 y1 y2))
  | 0 => fun _ _ _ r h => by simp [kilnlaw3_sector.l0] at h
  | k + 1 => by
    have ih0 := kilnlaw3_sector.mono_l k
    · intro y0 y1 y2
      unfold kilnlaw3_sector.l0
      repeat' first
      | (with_reducible exact ih0 _ _ _)
      | (with_reducible exact LeO.refl _)
      | (with_reducible exact LeO.none _)
      | (with_reducible refine LeO.ite ?_ ?_)
      | (with_reducible refine LeO.bind ?_ (fun _ => ?_))
      | exact ih0 _ _ _
      | exact LeO.none _
      | refine LeO.ite ?_ ?_
      | refine LeO.bind ?_ (fun _ => ?_)
theorem kilnlaw3_sector.mono : ∀ a0 k, LeO (kilnlaw3_sector.f k a0) (kilnlaw3_sector.f (k + 1) a0) := by
  intro a0 k
  have ih0 := kilnlaw3_sector.mono_l k
  unfold kilnlaw3_sector.f
  repeat' first
      | (with_reducible exact ih0 _ _ _)
      | (with_reducible exact LeO.refl _)
      | (with_reducible exact LeO.none _)
      | (with_reducible refine LeO.ite ?_ ?_)
      | (with_reducible refine LeO.bind ?_ (fun _ => ?_))
      | exact ih0 _ _ _
      | exact LeO.none _
      | refine LeO.ite ?_ ?_
      | refine LeO.bind ?_ (fun _ => ?_)
set_option maxHeartbeats 8000000 in
set_option maxRecDepth 100000 in
theorem kilnlaw3_sector.calls (k : Nat) (A0 : Option Addr) (c0 : Nat) (l0 : List Int) (r : List Int) (w : World) (hr0 : Kd.C (Kd.int .u8) w A0 l0.length l0) (hc0 : l0.length ≤ c0) (h : kilnlaw3_sector.f k l0 = some r) :
    Calls Try.prog 22 #[.slice A0 l0.length c0] w fun e w' => ∃ v0_ : Value, e = .returned (v0_) ∧ Kd.R (Kd.int .u8) 5 w' w.heap.size (fun _ => True) v0_ r ∧ Below w.heap.size w w' := by
  have HR0 := Aside0.mk hr0
  have HC0 := Aside0.mk hc0
  clear hr0 hc0
  have HB := Aside0.mk (Below.refl w.heap.size w)
  have H : (if 512 ≤ 281474976710656 then (kilnlaw3_sector.l0 k l0 (List.replicate 512 0) 0) else (none)) = some r := h
  clear h
  by_cases c2 : 512 ≤ 281474976710656
  · rw [if_pos c2] at H
    have c2b0 := eq_true c2
    have c2b1 : decide (512 ≤ 281474976710656) = true := decide_eq_true c2
    clear c2
    obtain ⟨y101, hy101⟩ : ∃ y_ : List Int, y_ = (List.replicate 512 0) := ⟨_, rfl⟩
    replace H : (kilnlaw3_sector.l0 k l0 y101 0) = some r := by first | (rw [hy101]; with_reducible exact H) | (have H2_ := (Option.bind_some _ _).symm.trans H; rw [hy101]; with_reducible exact H2_) | (have H2_ := (Option.bind_some _ _).symm.trans H; with_reducible exact H2_) | with_reducible exact H | (rw [hy101]; exact H) | exact H
    have Ny101 := Aside0.mk hy101
    clear hy101
    have H' := Aside0.mk H
    clear H
    go_enter Try.func22, Try.ntmps22
    go_wp2_with (first | ((with_reducible refine gate_dst (N := 5) rfl ?_); (try (refine gate_guard (by rfl) ?_; dsimp only)); refine Kd.R_make (Kd.int .u8) _ 5 rfl (N := 5) rfl 28 _ _ rfl 512 rfl rfl Try.underlying28 (.int .u8 0) 1 info5 rfl (by decide) (by omega) 0 (ok := fun _ => True) (okp := fun _ => True) rfl (fun _ hk => hk) trivial (by omega) (by omega) (Below.refl _ _) (Nat.le_refl _) ?_; intro v102 w3 ho4 hb hg_ hnew_; clear hg_ hnew_; (first | rw [← Ny101.out] at ho4 | (simp only [Int.reduceToNat] at ho4; rw [← Ny101.out] at ho4)); have n0_ := Aside0.mk (Kd.R_lower ho4 (below_size (by repeat (first | (with_reducible first | exact HB.out | apply below_alloc | apply pw_below_drewN | apply below_drew1) | exact HB.out)))); have n1_ := Aside0.mk (below_step (by repeat (first | (with_reducible first | exact HB.out | apply below_alloc | apply pw_below_drewN | apply below_drew1) | exact HB.out)) hb); clear HB; have HO103 := n0_; have HB := n1_; clear n0_ n1_; clear hb ho4))
    go_loopg [4] k (fun kq v4 w' => ∃ (x3_1 : List Int) (x4_1 : Int), v4 = .int .i64 x4_1 ∧ Aside0 (kilnlaw3_sector.l0 kq l0 x3_1 x4_1 = some r) ∧ Aside0 (kq ≤ k) ∧ Aside0 (Kd.R (Kd.int .u8) 5 w' w.heap.size (fun _ => True) v102 x3_1) ∧ Aside0 (Below w.heap.size w w'))
    case atStart => exact ⟨(y101), (0), (by first | rfl | (simp; done) | (simp [*]; done)), H', ⟨Nat.le_refl _⟩, ⟨by (with_reducible repeat (first | apply Kd.R_alloc | apply Kd.R_drewN | apply Kd.R_drew)); exact HO103.out⟩, ⟨by repeat (first | (with_reducible first | exact HB.out | apply below_alloc | apply pw_below_drewN | apply below_drew1) | exact HB.out)⟩⟩
    case round =>
      clear H'
      try clear c2
      try clear c2b0
      try clear c2b1
      try clear p2
      obtain ⟨x3_1, x4_1, rfl, HA, HK1, HO_3, HB⟩ := hrel
      cases gk with
      | zero => exact absurd HA.out (by simp [kilnlaw3_sector.l0])
      | succ k1 =>
        have H := HA.out
        clear HA
        simp only [kilnlaw3_sector.l0] at H
        by_cases c5 : x4_1 < (x3_1.length : Int)
        · rw [if_pos c5] at H
          have c5b0 : decide (x4_1 < (x3_1.length : Int)) = true := decide_eq_true c5
          clear c5
          by_cases c6 : (l0.length : Int) > 0
          · rw [if_pos c6] at H
            have c6b0 : decide (0 < (l0.length : Int)) = true := decide_eq_true c6
            have c6b1 : decide (0 < l0.length) = true := decide_eq_true (by omega)
            clear c6
            by_cases c7 : (l0.length : Int) = 0
            · rw [if_pos c7] at H
              exact absurd H (by simp)
            · rw [if_neg c7] at H
              have c7b0 : ((l0.length : Int) == 0) = false := beq_eq_false_iff_ne.mpr c7
              have c7b1 : ((l0.length : Int) != 0) = true := bne_iff_ne.mpr c7
              have c7b2 : ¬ (l0 = []) := fun h_ => c7 (by rw [h_]; rfl)
              obtain ⟨ji8, hji8⟩ : ∃ j_ : Int, (Int.tmod x4_1 (l0.length : Int)) = j_ := ⟨_, rfl⟩
              replace H : (if 0 ≤ (ji8) then (if (ji8) < (l0.length : Int) then (if 0 ≤ x4_1 then (kilnlaw3_sector.l0 k1 l0 (x3_1.set (x4_1 : Int).toNat (rd l0 (ji8))) (wrap64 (x4_1 + 1))) else (none)) else (none)) else (none)) = some r := by first | (rw [hji8] at H; exact H) | (simp only [hji8] at H ⊢; exact H)
              by_cases c9 : 0 ≤ (ji8)
              · rw [if_pos c9] at H
                have c9b0 : decide (0 ≤ (ji8)) = true := decide_eq_true c9
                clear c9
                by_cases c10 : (ji8) < (l0.length : Int)
                · rw [if_pos c10] at H
                  have c10b0 : decide ((ji8) < (l0.length : Int)) = true := decide_eq_true c10
                  clear c10
                  by_cases c11 : 0 ≤ x4_1
                  · rw [if_pos c11] at H
                    have c11b0 : decide (0 ≤ x4_1) = true := decide_eq_true c11
                    clear c11
                    obtain ⟨y105, hy105⟩ : ∃ y_ : List Int, y_ = (x3_1.set (x4_1 : Int).toNat (rd l0 (ji8))) := ⟨_, rfl⟩
                    replace H : (kilnlaw3_sector.l0 k1 l0 y105 (wrap64 (x4_1 + 1))) = some r := by first | (rw [hy105]; with_reducible exact H) | (have H2_ := (Option.bind_some _ _).symm.trans H; rw [hy105]; with_reducible exact H2_) | (have H2_ := (Option.bind_some _ _).symm.trans H; with_reducible exact H2_) | with_reducible exact H | (rw [hy105]; exact H) | exact H
                    have Ny105 := Aside0.mk hy105
                    clear hy105
                    have H' := Aside0.mk H
                    clear H
                    obtain ⟨Ao13, co13, eo13⟩ := Kd.R_slice HO_3.out
                    subst eo13
                    have p104 : 0 ≤ ((ji8) : Int) := of_decide_eq_true (by first | (with_reducible assumption) | assumption)
                    have q104 : (ji8) < (l0.length : Int) := of_decide_eq_true (by first | (with_reducible assumption) | assumption)
                    obtain ⟨ad104, e104, hx104_0⟩ := Kd.at_int HR0.out (ji8) p104 q104
                    cases e104
                    replace hx104_0 := (HB.out.cell (World.block_lt_of_cell? w _ hx104_0)).trans hx104_0
                    replace p104 := eq_true p104
                    replace q104 := eq_true q104
                    have p12 : 0 ≤ (x4_1 : Int) := of_decide_eq_true (by first | (with_reducible assumption) | assumption)
                    have q12 : (x4_1 : Int) < ((x3_1.length : Int) : Int) := of_decide_eq_true (by first | (with_reducible assumption) | assumption)
                    obtain ⟨go12, co12, eo12, gb12, gl12, cl12, HG12⟩ := Kd.R_form HO_3.out (by omega)
                    (first | cases eo12 | (injection eo12 with ea_ en_ ec_; (first | subst ea_ | (injection ea_ with ea_; subst ea_)); subst ec_; clear en_))
                    have GB12 := Aside0.mk gb12
                    have GG12 := Aside0.mk HG12
                    clear gb12 gl12 HG12
                    obtain ⟨hx12_0, hf12_0⟩ := Kd.R_celln 0 HO_3.out (x4_1 : Int) p12 q12
                    replace p12 := eq_true p12
                    replace q12 := eq_true q12
                    have HP14 := Kd.R_putg HO_3.out (x4_1 : Int) (rd l0 (ji8))
                    go_wp2_with (first | ((with_reducible refine gate_store (t := 5) (p := 26) rfl ?_); refine store_event (t := 5) (p := 26) (v := ?vo_w15) (w1 := (wr.setCell ⟨go12, (x4_1 : Int).toNat, none⟩ (.int .u8 (rd l0 (ji8))))) ?hg ?ho ?hn ?hr ?_; (case ho => rfl); (case hg => rfl); (case hn => rfl); (case hr => first | (go_simp; done) | (go_simp; rfl)); intro w15 hw; have hg : wr.grownBy w15 (some go12) := (by rw [hw]; exact HP14.2); have hp_ : Kd.R (Kd.int .u8) 5 w15 w.heap.size (fun _ => True) (.slice (some ⟨go12, 0, none⟩) x3_1.length co13) y105 := (by rw [hw, Ny105.out]; exact HP14.1); clear HP14; have n0_ := Aside0.mk (hp_); have n1_ := Aside0.mk ((by rw [hw]; exact below_set (HB.out) GB12.out : Below w.heap.size w w15)); clear HO_3; clear HB; have HO_3 := n0_; have HB := n1_; clear n0_ n1_; clear hg hw hp_))
                    go_roundg k1
                    case measure => have := HK1.out; omega
                    case rel => exact ⟨(y105), (wrap64 (x4_1 + 1)), (by first | rfl | (simp; done) | (simp [*]; done)), H', ⟨by have := HK1.out; omega⟩, ⟨by (with_reducible repeat (first | apply Kd.R_alloc | apply Kd.R_drewN | apply Kd.R_drew)); exact HO_3.out⟩, ⟨by repeat (first | (with_reducible first | exact HB.out | apply below_alloc | apply pw_below_drewN | apply below_drew1) | exact HB.out)⟩⟩
                  · rw [if_neg c11] at H
                    exact absurd H (by simp)
                · rw [if_neg c10] at H
                  exact absurd H (by simp)
              · rw [if_neg c9] at H
                exact absurd H (by simp)
          · rw [if_neg c6] at H
            have c6b0 : decide (0 < (l0.length : Int)) = false := decide_eq_false c6
            have c6b1 : decide (0 < l0.length) = false := decide_eq_false (by omega)
            clear c6
            obtain rfl := Option.some.inj H
            obtain ⟨Ao16, co16, eo16⟩ := Kd.R_slice HO_3.out
            subst eo16
            go_wp2
            go_ret
            exact ⟨_, by first | rfl | (simp [errW_none, errW_some] <;> rfl) | (simp [*, errW_none, errW_some] <;> rfl), by (with_reducible repeat (first | apply Kd.R_alloc | apply Kd.R_drewN | apply Kd.R_drew)); exact HO_3.out, by repeat (first | (with_reducible first | exact HB.out | apply below_alloc | apply pw_below_drewN | apply below_drew1) | exact HB.out)⟩
        · rw [if_neg c5] at H
          have c5b0 : decide (x4_1 < (x3_1.length : Int)) = false := decide_eq_false c5
          clear c5
          obtain rfl := Option.some.inj H
          obtain ⟨Ao17, co17, eo17⟩ := Kd.R_slice HO_3.out
          subst eo17
          go_wp2
          go_ret
          exact ⟨_, by first | rfl | (simp [errW_none, errW_some] <;> rfl) | (simp [*, errW_none, errW_some] <;> rfl), by (with_reducible repeat (first | apply Kd.R_alloc | apply Kd.R_drewN | apply Kd.R_drew)); exact HO_3.out, by repeat (first | (with_reducible first | exact HB.out | apply below_alloc | apply pw_below_drewN | apply below_drew1) | exact HB.out)⟩
  · rw [if_neg c2] at H
    exact absurd H (by simp)
end Go.Proofs.Ytddnhcnkjcdfgaa.P

namespace Go.Proofs.Ytddnhcnkjcdfgaa.M
open Go.RowKit Go.Maps Go.Proofs.YtddnhcnkjcdfgaaW.PrintWords Go.Proofs.YtddnhcnkjcdfgaaW.PrintLast Go.Proofs.YtddnhcnkjcdfgaaW.PrintMore
open Go.Proofs.Ytddnhcnkjcdfgaa.P
attribute [local go_sem] max2_int min2_int max_two min_two max_three min_three max_four min_four
set_option linter.unusedVariables false
set_option linter.unusedSimpArgs false
theorem read_at (g i : Nat) (w : World) (base : Nat) (F : Nat → Prop) (s : DS) (h : DkAt w base g F s) (hi : i < s.n) :
    Calls Try.prog 25 #[.pointer (some ⟨g, 0, none⟩), .int .i64 (i : Int)] w fun e w' => ∃ v, e = .returned (.tuple #[v, .int .i64 0]) ∧ Kd.R (Kd.int .u8) 5 w' w.heap.size (fun _ => True) v (s.cur i) ∧ DkAt w' base g F s.reads ∧ Chg F w w' := by
  obtain ⟨lb, cp, mb, f, k, D, h1, h2⟩ := h
  refine (read_in g i w base lb cp mb k f D s h1 hi).mono ?_
  rintro e w' ⟨v, he, hr, hd, hc⟩
  exact ⟨v, he, hr, ⟨lb, cp, mb, f, k, D, hd, h2⟩, hc.mono (fun x hx => (h2 x).2 (.inl hx))⟩
theorem write_at (g i : Nat) (A : Option Addr) (c : Nat) (b : List Int) (w : World) (base : Nat) (F : Nat → Prop) (s : DS) (h : DkAt w base g F s) (hi : i < s.n) (hC : (Kd.int .u8).C w A 512 b) (hne : ∀ ad, A = some ad → ¬ F ad.block) (hc : s.c < 1073741824) :
    Calls Try.prog 16 #[.pointer (some ⟨g, 0, none⟩), .int .i64 (i : Int), .slice A 512 c] w fun e w' => e = .returned (.int .i64 0) ∧ ∃ F', DkAt w' base g F' (s.put i b) ∧ (∀ b, F' b → F b ∨ w.heap.size ≤ b) ∧ Chg F w w' := by
  obtain ⟨lb, cp, mb, f, k, D, h1, h2⟩ := h
  refine (write_in g i A c b w base lb cp mb k f D s h1 hi hC (fun ad e hf => hne ad e ((h2 _).2 hf)) hc).mono ?_
  rintro e w' ⟨he, F', hd, hF, hch⟩
  exact ⟨he, F', hd, fun b hb => (hF b hb).imp (fun h => (h2 b).2 h) id, hch.mono (fun x hx => (h2 x).2 hx)⟩
theorem flush_at (g : Nat) (w : World) (base : Nat) (F : Nat → Prop) (s : DS) (h : DkAt w base g F s) :
    Calls Try.prog 17 #[.pointer (some ⟨g, 0, none⟩)] w fun e w' => (∃ v, e = .returned v) ∧ ∃ F', DkAt w' base g F' s.flush ∧ (∀ b, F' b → F b) ∧ Chg F w w' := by
  obtain ⟨lb, cp, mb, f, k, D, h1, h2⟩ := h
  refine (flush_in g w base lb cp mb k f D s h1).mono ?_
  rintro e w' ⟨he, hd, hch⟩
  refine ⟨he, _, ⟨lb, cp, mb, _, 0, _, hd, fun b => Iff.rfl⟩, ?_, hch.mono (fun x hx => (h2 x).2 (by rcases hx with h | h | h; exact .inl h; exact .inr (.inl h); exact .inr (.inr (.inl h))))⟩
  rintro b (h | h | h | ⟨i, hi, h⟩)
  · exact (h2 b).2 (.inl h)
  · exact (h2 b).2 (.inr (.inl h))
  · exact (h2 b).2 (.inr (.inr (.inl h)))
  · cases h
theorem image_at (g : Nat) (w : World) (base : Nat) (F : Nat → Prop) (s : DS) (h : DkAt w base g F s) :
    Calls Try.prog 26 #[.pointer (some ⟨g, 0, none⟩)] w fun e w' => ∃ go c, e = .returned (.slice (some ⟨go, 0, none⟩) s.n c) ∧ Kd.S KB 28 w' w.heap.size (fun _ => True) (.slice (some ⟨go, 0, none⟩) s.n c) s.L ∧ Below w.heap.size w w' := by
  obtain ⟨lb, cp, mb, f, k, D, h1, h2⟩ := h
  exact image_in g w base lb cp mb k f D s h1
end Go.Proofs.Ytddnhcnkjcdfgaa.M

namespace Go.Proofs.Ytddnhcnkjcdfgaa.M
open Go.RowKit Go.Maps Go.Proofs.YtddnhcnkjcdfgaaW.PrintWords Go.Proofs.YtddnhcnkjcdfgaaW.PrintLast Go.Proofs.YtddnhcnkjcdfgaaW.PrintMore
open Go.Proofs.Ytddnhcnkjcdfgaa.P
attribute [local go_sem] max2_int min2_int max_two min_two max_three min_three max_four min_four
set_option linter.unusedVariables false
set_option linter.unusedSimpArgs false
end Go.Proofs.Ytddnhcnkjcdfgaa.M

namespace Go.Proofs.Ytddnhcnkjcdfgaa.M
open Go.RowKit Go.Maps Go.Proofs.YtddnhcnkjcdfgaaW.PrintWords Go.Proofs.YtddnhcnkjcdfgaaW.PrintLast Go.Proofs.YtddnhcnkjcdfgaaW.PrintMore
open Go.Proofs.Ytddnhcnkjcdfgaa.P
attribute [local go_sem] max2_int min2_int max_two min_two max_three min_three max_four min_four
set_option linter.unusedVariables false
set_option linter.unusedSimpArgs false
end Go.Proofs.Ytddnhcnkjcdfgaa.M

namespace Go.Proofs.Ytddnhcnkjcdfgaa.M
open Go.RowKit Go.Maps Go.Proofs.YtddnhcnkjcdfgaaW.PrintWords Go.Proofs.YtddnhcnkjcdfgaaW.PrintLast Go.Proofs.YtddnhcnkjcdfgaaW.PrintMore
open Go.Proofs.Ytddnhcnkjcdfgaa.P
attribute [local go_sem] max2_int min2_int max_two min_two max_three min_three max_four min_four
set_option linter.unusedVariables false
set_option linter.unusedSimpArgs false
theorem Chg.cell {F : Nat → Prop} {a b : World} (h : Chg F a b) {x : Nat} (hn : ¬ F x) (hlt : x < a.heap.size) (o : Nat) : b.cell? ⟨x, o, none⟩ = a.cell? ⟨x, o, none⟩ := by
  unfold World.cell?
  simp only [h.block x hlt hn]
end Go.Proofs.Ytddnhcnkjcdfgaa.M

namespace Go.Proofs.Ytddnhcnkjcdfgaa.M
open Go.RowKit Go.Maps Go.Proofs.YtddnhcnkjcdfgaaW.PrintWords Go.Proofs.YtddnhcnkjcdfgaaW.PrintLast Go.Proofs.YtddnhcnkjcdfgaaW.PrintMore
open Go.Proofs.Ytddnhcnkjcdfgaa.P
set_option linter.unusedVariables false
set_option linter.unusedSimpArgs false
theorem w64 (x : Int) (h : -9223372036854775808 ≤ x) (h2 : x < 9223372036854775808) : wrap64 x = x := by unfold wrap64; omega
theorem up_ {α : Type} {g : Nat → Option α} (h : ∀ k, LeO (g k) (g (k + 1))) (k : Nat) : ∀ d, LeO (g k) (g (k + d))
  | 0 => LeO.refl _
  | d + 1 => (up_ h k d).trans (h (k + d))
theorem sector_l0 (x0 : List Int) : ∀ (m : Nat) (x3 : List Int) (j : Nat), x3.length = 512 → j + m = 512 → ∃ r, kilnlaw3_sector.l0 (m + 1) x0 x3 (j : Int) = some r ∧ r.length = 512
  | 0, x3, j, hl, hj => by
    unfold kilnlaw3_sector.l0
    rw [if_neg (by omega)]
    exact ⟨_, rfl, hl⟩
  | m + 1, x3, j, hl, hj => by
    unfold kilnlaw3_sector.l0
    rw [if_pos (by omega)]
    by_cases h0 : (x0.length : Int) > 0
    · rw [if_pos h0, if_neg (by omega), if_pos (Int.tmod_nonneg _ (by omega)), if_pos (Int.tmod_lt_of_pos _ h0), if_pos (by omega), w64 _ (by omega) (by omega)]
      exact sector_l0 x0 m _ (j + 1) (by rw [List.length_set]; exact hl) (by omega)
    · rw [if_neg h0]
      exact ⟨_, rfl, hl⟩
theorem sector_ok (b : List Int) (d : Nat) : ∃ r, kilnlaw3_sector.f (513 + d) b = some r ∧ r.length = 512 := by
  obtain ⟨r, h, hl⟩ := sector_l0 b 512 (List.replicate 512 0) 0 (by rw [List.length_replicate]) (by omega)
  refine ⟨r, up_ (g := fun k => kilnlaw3_sector.f k b) (kilnlaw3_sector.mono b) 513 d r ?_, hl⟩
  show kilnlaw3_sector.f 513 b = some r
  unfold kilnlaw3_sector.f
  rw [if_pos (by decide)]
  exact h
theorem cur_put (s : DS) (i : Nat) (b : List Int) (j : Nat) : (s.put i b).cur j = if j = i then b else s.cur j := by
  unfold DS.cur DS.put
  by_cases e : j = i
  · subst e; simp
  · simp [e]
def Good (n : Nat) (out : List S30) : Prop := ∀ x ∈ out, (∃ i : Nat, i < n ∧ x.f0 = (i : Int)) ∧ x.f1.length = 512
theorem Good.at_ {n : Nat} {out : List S30} (h : Good n out) (j : Nat) (hj : j < out.length) : (∃ i : Nat, i < n ∧ (rd_T30 out (j : Int)).f0 = (i : Int)) ∧ (rd_T30 out (j : Int)).f1.length = 512 := by
  refine h _ ?_
  unfold rd_T30
  rw [Int.toNat_natCast, List.getD_eq_getElem?_getD, List.getElem?_eq_getElem hj]
  exact List.getElem_mem hj
end Go.Proofs.Ytddnhcnkjcdfgaa.M

namespace Go.Proofs
open Go.Shelf
def Try.keysA_ren : Go.Shelf.Ren := ⟨fun | 7 => 46 | 10 => 58 | n => n, fun | 23 => 87 | 26 => 3 | 3 => 86 | 28 => 95 | 0 => 0 | 27 => 94 | 33 => 85 | 4 => 4 | n => n, fun | n => n⟩
theorem Try.keysA : Go.Proofs.SlLaysZI.n7 Try.prog Try.keysA_ren := {
  mixed := by kernel_rfl
  f7 := ⟨Try.f46.name, by decide, Try.func46.trans (congrArg some (by kernel_rfl))⟩
  f10 := ⟨Try.f58.name, by decide, Try.func58.trans (congrArg some (by kernel_rfl))⟩
  t0 := Try.underlying0
  a0 := Try.isAgg0
  z0 := Try.sizeOf0
  v0 := Try.zeroValue0
  t4 := Try.underlying4
  a4 := Try.isAgg4
  z4 := Try.sizeOf4
  v4 := Try.zeroValue4
  t23 := Try.underlying87
  a23 := Try.isAgg87
  z23 := Try.sizeOf87
  v23 := Try.zeroValue87
  t26 := Try.underlying3
  a26 := Try.isAgg3
  z26 := Try.sizeOf3
  v26 := Try.zeroValue3
  t27 := Try.underlying94
  a27 := Try.isAgg94
  z27 := Try.sizeOf94
  v27 := Try.zeroValue94
  t28 := Try.underlying95
  a28 := Try.isAgg95
  z28 := Try.sizeOf95
  v28 := Try.zeroValue95
  t33 := Try.underlying85
  a33 := Try.isAgg85
  z33 := Try.sizeOf85
  v33 := Try.zeroValue85 }
def Try.sortedA_ren : Go.Shelf.Ren := ⟨fun | 6 => 45 | 8 => 56 | 9 => 57 | 11 => 65 | 13 => 67 | 12 => 66 | 23 => 77 | 24 => 78 | 14 => 68 | 15 => 69 | 16 => 70 | 17 => 71 | 18 => 72 | 19 => 73 | 20 => 74 | 21 => 75 | 22 => 76 | 25 => 79 | 26 => 80 | 27 => 81 | 28 => 82 | 29 => 83 | 30 => 84 | 31 => 85 | n => n, fun | 26 => 3 | 28 => 95 | 24 => 51 | 0 => 0 | 3 => 3 | 37 => 116 | 48 => 127 | 50 => 129 | 4 => 4 | 40 => 119 | 39 => 118 | 45 => 124 | 5 => 5 | 9 => 9 | 51 => 130 | 55 => 134 | 57 => 136 | 58 => 137 | 33 => 85 | n => n, fun | n => n⟩
theorem Try.sortedA : Go.Proofs.SlLaysZI.n6 Try.prog Try.sortedA_ren := {
  mixed := by kernel_rfl
  f6 := ⟨Try.f45.name, by decide, Try.func45.trans (congrArg some (by kernel_rfl))⟩
  f8 := ⟨Try.f56.name, by decide, Try.func56.trans (congrArg some (by kernel_rfl))⟩
  f11 := ⟨Try.f65.name, by decide, Try.func65.trans (congrArg some (by kernel_rfl))⟩
  t0 := Try.underlying0
  a0 := Try.isAgg0
  z0 := Try.sizeOf0
  v0 := Try.zeroValue0
  t24 := Try.underlying51
  a24 := Try.isAgg51
  z24 := Try.sizeOf51
  v24 := Try.zeroValue51
  t26 := Try.underlying3
  a26 := Try.isAgg3
  z26 := Try.sizeOf3
  v26 := Try.zeroValue3
  t28 := Try.underlying95
  a28 := Try.isAgg95
  z28 := Try.sizeOf95
  v28 := Try.zeroValue95
  i26 := by kernel_rfl }
def Try.sortA_ren : Go.Shelf.Ren := ⟨fun | 5 => 57 | 8 => 67 | 7 => 66 | 19 => 77 | 20 => 78 | 10 => 68 | 11 => 69 | 12 => 70 | 13 => 71 | 14 => 72 | 15 => 73 | 16 => 74 | 17 => 75 | 18 => 76 | 30 => 79 | 31 => 80 | 32 => 81 | 33 => 82 | 34 => 83 | 35 => 84 | 40 => 85 | n => n, fun | 23 => 51 | 25 => 3 | 3 => 3 | 32 => 116 | 22 => 51 | 0 => 0 | 44 => 127 | 46 => 129 | 4 => 4 | 36 => 119 | 35 => 118 | 41 => 124 | 5 => 5 | 9 => 9 | 53 => 130 | 57 => 134 | 63 => 136 | 64 => 137 | n => n, fun | n => n⟩
theorem Try.sortA : Go.Proofs.SlLaysM.n5 Try.prog Try.sortA_ren := {
  mixed := by kernel_rfl
  f5 := ⟨Try.f57.name, by decide, Try.func57.trans (congrArg some (by kernel_rfl))⟩
  f7 := ⟨Try.f66.name, by decide, Try.func66.trans (congrArg some (by kernel_rfl))⟩
  f8 := Try.func67.trans (congrArg some (by kernel_rfl))
  f10 := ⟨Try.f68.name, by decide, Try.func68.trans (congrArg some (by kernel_rfl))⟩
  f11 := ⟨Try.f69.name, by decide, Try.func69.trans (congrArg some (by kernel_rfl))⟩
  f12 := ⟨Try.f70.name, by decide, Try.func70.trans (congrArg some (by kernel_rfl))⟩
  f13 := ⟨Try.f71.name, by decide, Try.func71.trans (congrArg some (by kernel_rfl))⟩
  f14 := ⟨Try.f72.name, by decide, Try.func72.trans (congrArg some (by kernel_rfl))⟩
  f15 := ⟨Try.f73.name, by decide, Try.func73.trans (congrArg some (by kernel_rfl))⟩
  f16 := ⟨Try.f74.name, by decide, Try.func74.trans (congrArg some (by kernel_rfl))⟩
  f17 := ⟨Try.f75.name, by decide, Try.func75.trans (congrArg some (by kernel_rfl))⟩
  f18 := ⟨Try.f76.name, by decide, Try.func76.trans (congrArg some (by kernel_rfl))⟩
  f19 := Try.func77.trans (congrArg some (by kernel_rfl))
  f20 := Try.func78.trans (congrArg some (by kernel_rfl))
  f30 := ⟨Try.f79.name, by decide, Try.func79.trans (congrArg some (by kernel_rfl))⟩
  f31 := Try.func80.trans (congrArg some (by kernel_rfl))
  f32 := Try.func81.trans (congrArg some (by kernel_rfl))
  f33 := ⟨Try.f82.name, by decide, Try.func82.trans (congrArg some (by kernel_rfl))⟩
  f34 := ⟨Try.f83.name, by decide, Try.func83.trans (congrArg some (by kernel_rfl))⟩
  f35 := ⟨Try.f84.name, by decide, Try.func84.trans (congrArg some (by kernel_rfl))⟩
  f40 := ⟨Try.f85.name, by decide, Try.func85.trans (congrArg some (by kernel_rfl))⟩
  t0 := Try.underlying0
  a0 := Try.isAgg0
  z0 := Try.sizeOf0
  v0 := Try.zeroValue0
  t3 := Try.underlying3
  a3 := Try.isAgg3
  z3 := Try.sizeOf3
  v3 := Try.zeroValue3
  t4 := Try.underlying4
  a4 := Try.isAgg4
  z4 := Try.sizeOf4
  v4 := Try.zeroValue4
  t5 := Try.underlying5
  a5 := Try.isAgg5
  z5 := Try.sizeOf5
  v5 := Try.zeroValue5
  t9 := Try.underlying9
  a9 := Try.isAgg9
  z9 := Try.sizeOf9
  v9 := Try.zeroValue9
  t22 := Try.underlying51
  a22 := Try.isAgg51
  z22 := Try.sizeOf51
  v22 := Try.zeroValue51
  t23 := Try.underlying51
  a23 := Try.isAgg51
  z23 := Try.sizeOf51
  v23 := Try.zeroValue51
  t25 := Try.underlying3
  a25 := Try.isAgg3
  z25 := Try.sizeOf3
  v25 := Try.zeroValue3
  t32 := Try.underlying116
  a32 := Try.isAgg116
  z32 := Try.sizeOf116
  v32 := Try.zeroValue116
  t35 := Try.underlying118
  a35 := Try.isAgg118
  z35 := Try.sizeOf118
  v35 := Try.zeroValue118
  t36 := Try.underlying119
  a36 := Try.isAgg119
  z36 := Try.sizeOf119
  v36 := Try.zeroValue119
  t41 := Try.underlying124
  a41 := Try.isAgg124
  z41 := Try.sizeOf124
  v41 := Try.zeroValue124
  t44 := Try.underlying127
  a44 := Try.isAgg127
  z44 := Try.sizeOf127
  v44 := Try.zeroValue127
  t46 := Try.underlying129
  a46 := Try.isAgg129
  z46 := Try.sizeOf129
  v46 := Try.zeroValue129
  t53 := Try.underlying130
  a53 := Try.isAgg130
  z53 := Try.sizeOf130
  v53 := Try.zeroValue130
  t57 := Try.underlying134
  a57 := Try.isAgg134
  z57 := Try.sizeOf134
  v57 := Try.zeroValue134
  t63 := Try.underlying136
  a63 := Try.isAgg136
  z63 := Try.sizeOf136
  v63 := Try.zeroValue136
  t64 := Try.underlying137
  a64 := Try.isAgg137
  z64 := Try.sizeOf137
  v64 := Try.zeroValue137 }
open Go.RowKit Go.Maps Go.Sort in
theorem Try.sortsA (m : Nat) : AnyZI.SortsIn Try.prog Try.sortedA_ren Fence.wide m :=
  ⟨fun blk off cap ss W hH hblk hsz => callsIn_wide.2 (AnyM.slices_Sort_int Try.sortA blk off cap ss W hH hblk hsz),
   fun p cap W => callsIn_wide.2 (AnyM.slices_Sort_int_none Try.sortA p cap W)⟩
end Go.Proofs

namespace Go.Proofs.Ytddnhcnkjcdfgaa.M
open Go.RowKit Go.Maps Go.Sort Go.Shelf Go.Proofs.YtddnhcnkjcdfgaaW.PrintWords Go.Proofs.YtddnhcnkjcdfgaaW.PrintLast Go.Proofs.YtddnhcnkjcdfgaaW.PrintMore
set_option linter.unusedVariables false
set_option linter.unusedSimpArgs false
def DS.keysN (s : DS) : List Nat := (List.range s.n).filter (fun i => decide (s.W i ≠ []))
def DS.keysI (s : DS) : List Int := s.keysN.map (fun i : Nat => (i : Int))
theorem DS.mem_keysN (s : DS) (i : Nat) : i ∈ s.keysN ↔ i < s.n ∧ s.W i ≠ [] := by
  unfold DS.keysN
  rw [List.mem_filter, List.mem_range, decide_eq_true_eq]
theorem DS.keysN_rising (s : DS) : s.keysN.Pairwise (· < ·) := List.Pairwise.filter _ List.pairwise_lt_range
theorem DS.keysN_len (s : DS) : s.keysN.length ≤ s.n := by
  have := List.length_filter_le (fun i => decide (s.W i ≠ [])) (List.range s.n)
  rw [List.length_range] at this
  exact this
section
variable {w w' : World} {base g lb cp mb k : Nat} {F G : Nat → Prop} {s : DS} {f : Nat → Value} {D : DataW Value}
theorem DkIn.has_iff (h : DkIn w base g s lb cp mb f k D) (x : Int) : x ∈ s.keysI ↔ Maps.has D (.int .i64 x) = true := by
  constructor
  · intro hx
    obtain ⟨i, hi, rfl⟩ := List.mem_map.1 hx
    obtain ⟨hi, hW⟩ := (s.mem_keysN i).1 hi
    cases hh : Maps.has D (.int .i64 (i : Int)) with
    | true => rfl
    | false =>
      exfalso
      have h3 := h.at_ i hi
      rw [Maps.atKey_of_not_has hh] at h3
      have h4 : f i = .slice none 0 0 := (DataW.held.inj h3).symm
      have h5 := h.rows i hi
      rw [h4] at h5
      exact hW (List.length_eq_zero_iff.1 (Kd.R_reads' h5).1.symm)
  · intro hx
    obtain ⟨i, hi, e, hW⟩ := h.ks _ hx
    injection e with _ e
    subst e
    exact List.mem_map.2 ⟨i, (s.mem_keysN i).2 ⟨hi, hW⟩, rfl⟩
theorem DkIn.sorted (h : DkIn w base g s lb cp mb f k D) {ss : List Int} (hp : ss.Perm (intKeys D)) : ss.mergeSort leI = s.keysI ∧ ss.length = s.keysI.length := by
  have hn : s.keysI.Nodup := by
    refine List.pairwise_map.2 (s.keysN_rising.imp ?_)
    intro a b hab e
    have : (a : Int) = (b : Int) := e
    omega
  obtain ⟨es, hD, hpw, _⟩ := h.mp.entries keyed
  obtain ⟨es', hD', hko⟩ := h.mp.keysOf
  obtain rfl : es = es' := by rw [hD] at hD'; simpa using hD'
  have h1 : s.keysI.Perm (intKeys D) := by
    rw [hD]
    refine perm_intKeys hpw (fun p hp => ?_) hn (fun x => ?_)
    · obtain ⟨v, hv⟩ := hko p hp
      obtain ⟨x, _, hx, _⟩ := Maps.keyOf_i64 Try.underlying3 hv
      exact ⟨x, hx⟩
    · rw [← hD]; exact h.has_iff x
  have h2 : ss.Perm s.keysI := hp.trans h1.symm
  refine ⟨(mergeSort_of_perm_i h2).trans (List.mergeSort_of_pairwise (List.pairwise_map.2 (s.keysN_rising.imp ?_))), h2.length_eq⟩
  intro a b hab
  show decide ((a : Int) ≤ (b : Int)) = true
  exact decide_eq_true (by omega)
set_option maxHeartbeats 1000000 in
theorem keys_calls (m : Nat) (W : World) : Calls Try.prog 46 #[.map (some m)] W fun e w' => e = .returned (.func (.func 58) #[] #[.pointer (some ⟨W.heap.size, 0, none⟩)]) ∧ w' = W.alloc (.cells #[.map (some m)] 87) :=
  (callsIn_wide (n := 5)).1 (AnyZI.keys_in Try.keysA Fence.wide 5 trivial rfl (some m) W)
set_option maxHeartbeats 1000000 in
theorem sorted_calls (h : DkIn w base g s lb cp mb f k D) (hc : s.c < 1073741824) :
    Calls Try.prog 45 #[.func (.func 58) #[] #[.pointer (some ⟨w.heap.size, 0, none⟩)]] (w.alloc (.cells #[.map (some mb)] 87)) fun e w' => ∃ v, e = .returned v ∧ Kd.R (Kd.int .i64) 3 w' w.heap.size (fun _ => True) v s.keysI ∧ Below w.heap.size w w' := by
  have hown := h.mp
  have hbl := hown.lt
  have hsz : Maps.size D ≤ k := hown.size_le
  have hk := h.kc
  have hmax : Maps.size D ≤ maxLen := by unfold maxLen; omega
  have hbytes : Maps.size D * 8 ≤ 140737488355328 := by omega
  have hseq : SeqGives Fence.wide 2 Try.prog 58 #[.pointer (some ⟨w.heap.size, 0, none⟩)] encZ (fun ss => ss.Perm (intKeys D)) (Maps.size D) (w.alloc (.cells #[.map (some mb)] 87)) :=
    AnyZI.keys_gives (ρ := Try.keysA_ren) { Try.keysA with } Fence.wide _ trivial rfl (by omega) w.heap.size mb k D _ (by simp) (by simp) (by
      obtain ⟨es, clock, hb, Ft, hs, hD⟩ := hown
      exact ⟨es, clock, (Below.heap_alloc _ _ mb hbl).trans hb, Ft, hs, hD⟩)
  have cS := AnyZI.sorted_in Try.sortedA Fence.wide 5 trivial trivial trivial trivial rfl (by omega) (Try.sortsA _) (enters_of Try.func57 (by kernel_rfl) rfl) 58 #[.pointer (some ⟨w.heap.size, 0, none⟩)] trivial (enters_of Try.func58 (by kernel_rfl) rfl) _ _ hmax hbytes _ hseq
  change CallsIn _ _ Try.prog 45 _ _ _ at cS
  refine ((callsIn_wide (n := _)).1 cS).mono ?_
  rintro e w' ⟨v, ss, rfl, hS, hrow, hnil, hb⟩
  obtain ⟨e1, e2⟩ := h.sorted hS
  refine ⟨v, rfl, ?_, ((Below.refl _ w).alloc (Nat.le_refl _) _).trans (hb.mono (by simp))⟩
  have hrow' : w'.ownsRow w.heap.size 3 1 v s.keysI.length (encs (Value.int .i64) s.keysI) := by
    have h0 : w'.ownsRow w.heap.size 3 1 v ss.length _ := ownsRow_base_a hrow (by simp)
    rw [e2] at h0
    have e1' : ss.mergeSort (fun x y => decide (x ≤ y)) = s.keysI := e1
    rw [e1'] at h0
    exact h0
  exact Kd.R_of_own hrow' (fun _ _ => trivial)
end
end Go.Proofs.Ytddnhcnkjcdfgaa.M

namespace Go.Proofs.Ytddnhcnkjcdfgaa.M
open Go.RowKit Go.Maps Go.Proofs.YtddnhcnkjcdfgaaW.PrintWords Go.Proofs.YtddnhcnkjcdfgaaW.PrintLast Go.Proofs.YtddnhcnkjcdfgaaW.PrintMore
open Go.ChangeMaps (setBlock)
attribute [local go_sem] max2_int min2_int max_two min_two
set_option linter.unusedVariables false
set_option linter.unusedSimpArgs false
def crashL (s : DS) (fs : List Int) : Nat → List (List Int)
  | 0 => s.L
  | j + 1 => if 1 ≤ fs.getD j 0 then (crashL s fs j).set (s.keysN.getD j 0) ((s.W (s.keysN.getD j 0)).getD ((min (fs.getD j 0) ((s.W (s.keysN.getD j 0)).length : Int)).toNat - 1) []) else crashL s fs j
def DS.crash (s : DS) (fs : List Int) : DS := ⟨s.n, crashL s fs (min s.keysN.length fs.length), fun _ => [], 0, s.r, s.wr, s.fl⟩
def DS.half (s : DS) (fs : List Int) (j : Nat) : DS := ⟨s.n, crashL s fs j, s.W, s.c, s.r, s.wr, s.fl⟩
theorem add0 (b j : Nat) : (⟨b, 0, none⟩ : Addr).add j = ⟨b, j, none⟩ := by simp [Addr.add]; intro h; omega
theorem key_at (s : DS) (j : Nat) (hj : j < s.keysN.length) : s.keysN.getD j 0 < s.n ∧ s.W (s.keysN.getD j 0) ≠ [] ∧ rd s.keysI (j : Int) = ((s.keysN.getD j 0 : Nat) : Int) := by
  have h1 : s.keysN.getD j 0 = s.keysN[j] := by rw [List.getD_eq_getElem?_getD, List.getElem?_eq_getElem hj]; rfl
  have h2 := (s.mem_keysN (s.keysN[j])).1 (List.getElem_mem hj)
  rw [h1]
  refine ⟨h2.1, h2.2, ?_⟩
  unfold rd DS.keysI
  rw [Int.toNat_natCast, List.getD_eq_getElem?_getD, List.getElem?_map, List.getElem?_eq_getElem hj]
  rfl
set_option maxHeartbeats 1000000 in
set_option maxRecDepth 100000 in
theorem crash_in (g : Nat) (w : World) (base lb cp mb k : Nat) (f : Nat → Value) (D : DataW Value) (s : DS) (h : DkIn w base g s lb cp mb f k D) (hc : s.c < 1073741824) (A1 : Option Addr) (c1 : Nat) (fs : List Int) (hfs : ∀ W, Chg (fun x => x = lb) w W → (Kd.int .i64).C W A1 fs.length fs) (hne : ∀ ad, A1 = some ad → 0 < fs.length → ad.block ≠ lb) :
    Calls Try.prog 30 #[.pointer (some ⟨g, 0, none⟩), .slice A1 fs.length c1] w fun e w' => (∃ v, e = .returned v) ∧ DkIn w' base g (s.crash fs) lb cp mb (fun _ => .slice none 0 0) 0 (.map []) ∧ Chg (fun x => x = lb ∨ x = mb) w w' := by
  have hn2 := h.n2
  have hnm := h.nm
  have hKl := s.keysN_len
  have hKI : s.keysI.length = s.keysN.length := List.length_map _
  have hg1 : w.cell? ⟨g, 1, none⟩ = some (.map (some mb)) := blk_cell h.hd 1
  have HSO := Aside0.mk (sorted_calls h hc)
  have HK := Aside0.mk (keys_calls mb w)
  have HF := Aside0.mk hfs
  have HNE := Aside0.mk hne
  have H0 := Aside0.mk h
  have hlb : lb < w.heap.size := (h.la.typed rfl).2.1
  clear h hfs hne
  generalize hfl : fs.length = fl at *
  have HFL := Aside0.mk hfl
  clear hfl
  go_enter Try.func30, Try.ntmps30
  go_wp2_with (first
    | (go_at_call 46; (with_reducible refine HK.out.mono ?_); rintro e w1 ⟨rfl, rfl⟩)
    | (go_at_call 45; (with_reducible refine HSO.out.mono ?_); rintro e w2 ⟨v, rfl, hr, hb⟩; obtain ⟨Av, cv, ev⟩ := Kd.R_slice hr; subst ev; have HR9 := Aside0.mk hr; have HX0 := Aside0.mk hb; clear hr hb))
  have HR0 := Aside0.mk (show Kd.R (Kd.int .i64) 3 w2 w.heap.size (fun x => w.heap.size ≤ x) _ _ from Kd.R_of_own (Kd.own_of_R HR9.out) (fun k hk => Kd.R_base HR9.out k hk))
  clear HR9
  rw [hKI] at HR0
  try rw [hKI]
  generalize hm : s.keysN.length = m at *
  have HM := Aside0.mk hm
  have HKI := Aside0.mk hKI
  clear hm hKI
  clear hg1
  go_loopg [14] m (fun kq v14 wr => ∃ j : Nat, v14 = .int .i64 j ∧ Aside0 (j + kq = m) ∧ Aside0 (j ≤ fl) ∧ Aside0 (DkIn wr base g (s.half fs j) lb cp mb f k D) ∧ Aside0 (Chg (fun x => x = lb) w wr) ∧ Aside0 (Kd.R (Kd.int .i64) 3 wr w.heap.size (fun x => w.heap.size ≤ x) (.slice Av m cv) s.keysI))
  case atStart => exact ⟨0, rfl, ⟨Nat.zero_add _⟩, ⟨Nat.zero_le _⟩, ⟨H0.out.chg (G := fun _ => False) (Chg.of_below HX0.out) (fun _ _ => id)⟩, ⟨Chg.of_below HX0.out⟩, HR0⟩
  case round =>
    clear HR0 HX0
    obtain ⟨j, rfl, HJ, HJF, HD, HX, HR⟩ := hrel
    have hKw := HR.out
    by_cases hj : j < m
    · obtain ⟨hi, hW, hki⟩ := key_at s j (HM.out.symm ▸ hj)
      obtain ⟨bv, cv', ev, hbv, _, _⟩ := Kd.R_form HR.out (by rw [HKI.out]; omega)
      injection ev with ev el ec
      clear el ec
      subst ev
      obtain ⟨adv, eav, hkc⟩ := Kd.at_int (Kd.R_reads' HR.out).2.2 (j : Int) (by omega) (by rw [HKI.out]; omega)
      obtain rfl := Option.some.inj eav
      rw [hki, Int.toNat_natCast] at hkc
      generalize hgi : s.keysN.getD j 0 = i at hi hW hkc
      have HGI := Aside0.mk hgi
      clear hgi hki
      have hkc' : wr.cell? ⟨bv, j, none⟩ = some (.int .i64 (i : Int)) := by rw [add0] at hkc; exact hkc
      clear hkc hKw
      have hjb : decide (j < m) = true := decide_eq_true hj
      have hjt : (j < m) = True := eq_true hj
      have HJ2 := Aside0.mk hj
      clear hj
      by_cases hjf : j = fl
      · have HJE := Aside0.mk hjf
        have hjfb : ((j : Int) == (fl : Int)) = true := beq_iff_eq.mpr (by omega)
        have hjfd : (j == fl) = true := beq_iff_eq.mpr hjf
        clear hjf
        have hg1 : wr.cell? ⟨g, 1, none⟩ = some (.map (some mb)) := blk_cell HD.out.hd 1
        obtain ⟨ck, hclr⟩ := run_clear (by obtain ⟨es, ck, hb, _⟩ := HD.out.mp; exact ⟨es, ck, hb⟩) 0
        have HE := Aside0.mk (HD.out.clear ck)
        trace "BREAK"
        go_wp2
        refine bodyPost_end (results_none rfl _ _ _) rfl ?_
        refine ⟨⟨_, rfl⟩, ?_, (HX.out.mono (fun x h => .inl h)).trans HE.out.2 (fun x h => .inl (.inr h))⟩
        have h1 := HE.out.1
        unfold DS.crash
        rw [show min s.keysN.length fs.length = j from by have := HM.out; have := HFL.out; have := HJE.out; have := HJ2.out; omega]
        exact h1
      · have hjfb : ((j : Int) == (fl : Int)) = false := beq_eq_false_iff_ne.mpr (by omega)
        have hjfd : (j == fl) = false := beq_eq_false_iff_ne.mpr hjf
        have HJE := Aside0.mk hjf
        clear hjf
        have hjl : j < fl := by have := HJE.out; have := HJF.out; omega
        have hjlt : (j < fl) = True := eq_true hjl
        obtain ⟨ad, ead, hfc⟩ := Kd.at_int (HF.out wr HX.out) (j : Int) (by omega) (by omega)
        subst ead
        rw [Int.toNat_natCast] at hfc
        have hg1 : wr.cell? ⟨g, 1, none⟩ = some (.map (some mb)) := blk_cell HD.out.hd 1
        have hlk0 := HD.out.look i hi
        have hWl : 0 < (s.W i).length := List.length_pos_iff.2 hW
        have hrow := HD.out.rows i hi
        have hWc : (s.W i).length ≤ 9223372036854775807 := by
          obtain ⟨A7, c7, e7⟩ := Kd.R_slice hrow
          exact (Kd.R_reads' (e7 ▸ hrow)).2.2.2.1
        obtain ⟨b7, c7, e7, _⟩ := Kd.R_form hrow hWl
        have hrg7 : b7 ≠ lb := (HD.out.rowg (b := b7) hi (by rw [e7]; rfl)).2.2
        rw [e7] at hrow hlk0
        have HRW := Aside0.mk hrow
        have hWd : (s.half fs j).W i = s.W i := rfl
        rw [hWd] at hlk0 e7
        clear hrow hWd e7
        obtain ⟨fv, hfv0⟩ : ∃ x, x = rd fs (j : Int) := ⟨_, rfl⟩
        rw [← hfv0] at hfc
        have HFV := Aside0.mk (show fs.getD j 0 = fv from by rw [hfv0]; unfold rd; rw [Int.toNat_natCast])
        have HWI := Aside0.mk (And.intro hi hW)
        obtain ⟨ln, hln⟩ : ∃ x, x = (s.W i).length := ⟨_, rfl⟩
        rw [← hln] at hlk0 hWl hWc
        have HLN := Aside0.mk hln
        clear hfv0 hln hi hW
        by_cases hfv : 1 ≤ fv
        · have hfvb : decide (1 ≤ fv) = true := decide_eq_true hfv
          go_upto_region 6 with (fail)
          obtain ⟨q, hq1, hq2, hq3⟩ : ∃ q : Nat, (if (ln : Int) < fv then (ln : Int) else fv) = (q : Int) + 1 ∧ q < ln ∧ q = (min fv (ln : Int)).toNat - 1 := by
            refine ⟨(min fv (ln : Int)).toNat - 1, ?_, ?_, rfl⟩
            · split <;> omega
            · omega
          have HQ := Aside0.mk hq3
          clear hq3
          have hWi : (s.W i).getD q [] = (s.W i).getD q [] := rfl
          have hS7 := sec_at HRW.out q (by have := HLN.out; have h_ : (s.half fs j).W i = s.W i := rfl; rw [h_]; omega)
          have h_ : (s.half fs j).W i = s.W i := rfl
          rw [h_] at hS7
          clear h_ hWi
          obtain ⟨hSr, hSl, _⟩ := hS7
          obtain ⟨bC, hbC⟩ : ∃ x, x = (s.W i).getD q [] := ⟨_, rfl⟩
          have HbC := Aside0.mk hbC
          rw [← hbC] at hSr hSl
          have HSl := Aside0.mk hSl
          have hth : wr.there lb (i * 512) 512 := (sec_at HD.out.la i HWI.out.1).2.2
          have hlbg : lb ≠ g := HD.out.lbg
          have hfa : (ad.add j).block ≠ lb := by
            have h_ := HNE.out ad rfl (by omega)
            have e_ : (ad.add j).block = ad.block := by unfold Addr.add; split <;> rfl
            rw [e_]; exact h_
          have hg0 : wr.cell? ⟨g, 0, none⟩ = some (.slice (some ⟨lb, 0, none⟩) s.n cp) := blk_cell HD.out.hd 0
          have hi0 : (0 : Int) ≤ (i : Int) := by omega
          have hi1 : (i : Int) < (s.n : Int) := by have := HWI.out.1; omega
          have hil : (i < s.n) = True := eq_true HWI.out.1
          have hcl : (nums .u8 bC).length = 512 := by rw [nums_length, hSl]
          have hnb := nums_one bC
          have hu91 := Try.underlying91
          have hi91 : (Try.prog.info? 91).map (·.size) = some (nums .u8 bC).length := by rw [hcl]; exact size91
          generalize hcb : nums .u8 bC = cb at *
          have HCB := Aside0.mk hcb
          clear hcb hbC hSl
          have hif := hq1
          have hqw : IntKind.i64.wrap ((q : Int) + 1 - 1) = (q : Int) := by rw [show (q : Int) + 1 - 1 = (q : Int) by omega]; exact IntWalk.i64_in _ (by omega)
          have hqw2 : IntKind.i64.wrap (q : Int) = (q : Int) := IntWalk.i64_in _ (by omega)
          have hqt : (q : Int).toNat = q := rfl
          have hq0 : (0 : Int) ≤ (q : Int) := by omega
          have hql : (q : Int) < (ln : Int) := by omega
          have hix : ∀ W : World, (Instr.indexAt 86 (.slice (some ⟨b7, 0, none⟩) ln c7) (.int .i64 (q : Int))).run Try.prog W = .ok (.pointer (some ⟨b7, q * 512, none⟩)) W := fun W => by go_simp <;> (try (intro h; exact absurd h (by omega)))
          clear hq1
          go_region_held3 (fun W => W.cell? ⟨g, 0, none⟩ = some (.slice (some ⟨lb, 0, none⟩) s.n cp) ∧ W.cell? (ad.add j) = some (.int .i64 fv) ∧ W.rangeAt b7 (q * 512) cb ∧ W.there lb (i * 512) 512) (first | assumption | (simp only [World.cell?_drew]; exact ⟨hg0, hfc, hSr, hth⟩) | exact ⟨(World.cell?_setCells_out lb cb _ _ _ (fun e => absurd e.symm hlbg)).trans hg0, (World.cell?_setCells_out lb cb _ _ _ (fun e => absurd e hfa)).trans hfc, World.rangeAt_setCells_apart (w := wr.drew) hSr lb _ cb (.inl hrg7), World.there_setCells (w := wr.drew) hth lb _ cb⟩ | fail) (fail)
          have HP := (HD.out.chg (G := fun _ => False) (w' := wr.drew) ⟨rfl, rfl, rfl, Nat.le_refl _, fun _ _ _ => rfl⟩ (fun _ _ => id)).putL i HWI.out.1 bC HSl.out
          rw [HCB.out] at HP
          have HX6 := Aside0.mk ((HX.out.trans (b := wr) (c := wr.drew) (G := fun _ => False) ⟨rfl, rfl, rfl, Nat.le_refl _, fun _ _ _ => rfl⟩ (fun _ h => h.elim)).trans (Chg.of_grown (F := fun x => x = lb) HP.2 (fun x hx => (Option.some.inj hx).symm)) (fun x hx => .inl hx))
          have HR6 := Aside0.mk (show Kd.R (Kd.int .i64) 3 (wr.drew.setCells lb (i * 512) cb) w.heap.size (fun x => w.heap.size ≤ x) (.slice (some ⟨bv, 0, none⟩) m cv) s.keysI from Kd.R_step (Kd.R_drew HR.out) (fun k_ hk hlt => HP.2.block k_ hlt (by intro e; have := Option.some.inj e; omega)))
          have HD6 := Aside0.mk HP.1
          clear HP hSr hth hg0 hix hg1 hlk0 hfc hkc'
          generalize wr.drew.setCells lb (i * 512) cb = w5 at HR6 HD6 HX6 ⊢
          go_wp2
          go_roundg (gk - 1)
          case measure => have := HJ.out; have := HJ2.out; omega
          case rel => exact ⟨j + 1, (by have hi_ := HJ2.out; first | rfl | (simp; done) | (rw [show wrap64 ((j : Int) + 1) = (j : Int) + 1 from by unfold wrap64; omega]; rfl)), ⟨by have := HJ.out; have := HJ2.out; omega⟩, ⟨by omega⟩, ⟨by unfold DS.half crashL; rw [if_pos (by rw [HFV.out]; omega), HFV.out, HGI.out, ← HLN.out, ← HQ.out, ← HbC.out]; exact HD6.out⟩, HX6, HR6⟩
        · have hfvb : decide (1 ≤ fv) = false := decide_eq_false hfv
          go_wp2
          go_roundg (gk - 1)
          case measure => have := HJ.out; have := HJ2.out; omega
          case rel => exact ⟨j + 1, (by have hi_ := HJ2.out; first | rfl | (simp; done) | (rw [show wrap64 ((j : Int) + 1) = (j : Int) + 1 from by unfold wrap64; omega]; rfl)), ⟨by have := HJ.out; have := HJ2.out; omega⟩, ⟨by omega⟩, ⟨by unfold DS.half crashL; rw [if_neg (by rw [HFV.out]; omega)]; exact HD.out⟩, HX, HR⟩
    · have hjb : decide (j < m) = false := decide_eq_false hj
      have hjt : (j < m) = False := eq_false hj
      have HJ3 := Aside0.mk hj
      clear hj
      have hg1 : wr.cell? ⟨g, 1, none⟩ = some (.map (some mb)) := blk_cell HD.out.hd 1
      obtain ⟨ck, hclr⟩ := run_clear (by obtain ⟨es, ck, hb, _⟩ := HD.out.mp; exact ⟨es, ck, hb⟩) 0
      have HE := Aside0.mk (HD.out.clear ck)
      trace "END"
      go_wp2
      refine bodyPost_end (results_none rfl _ _ _) rfl ?_
      refine ⟨⟨_, rfl⟩, ?_, (HX.out.mono (fun x h => .inl h)).trans HE.out.2 (fun x h => .inl (.inr h))⟩
      have h1 := HE.out.1
      unfold DS.crash
      rw [show min s.keysN.length fs.length = j from by have := HM.out; have := HFL.out; have := HJ3.out; have := HJ.out; have := HJF.out; omega]
      exact h1
end Go.Proofs.Ytddnhcnkjcdfgaa.M

namespace Go.Proofs.Ytddnhcnkjcdfgaa.M
open Go.RowKit Go.Maps Go.Proofs.YtddnhcnkjcdfgaaW.PrintWords Go.Proofs.YtddnhcnkjcdfgaaW.PrintLast Go.Proofs.YtddnhcnkjcdfgaaW.PrintMore
open Go.Proofs.Ytddnhcnkjcdfgaa.P
attribute [local go_sem] max2_int min2_int max_two min_two max_three min_three max_four min_four
set_option linter.unusedVariables false
set_option linter.unusedSimpArgs false
theorem crash_at (g : Nat) (w : World) (base : Nat) (F : Nat → Prop) (s : DS) (h : DkAt w base g F s) (hc : s.c < 1073741824) (A1 : Option Addr) (c1 : Nat) (fs : List Int) (hfs : ∀ W, Chg F w W → (Kd.int .i64).C W A1 fs.length fs) (hne : ∀ ad, A1 = some ad → 0 < fs.length → ¬ F ad.block) :
    Calls Try.prog 30 #[.pointer (some ⟨g, 0, none⟩), .slice A1 fs.length c1] w fun e w' => (∃ v, e = .returned v) ∧ ∃ F', DkAt w' base g F' (s.crash fs) ∧ (∀ b, F' b → F b) ∧ Chg F w w' := by
  obtain ⟨lb, cp, mb, f, k, D, h1, h2⟩ := h
  refine (crash_in g w base lb cp mb k f D s h1 hc A1 c1 fs (fun W hW => hfs W (hW.mono (fun x hx => (h2 x).2 (.inr (.inl hx))))) (fun ad e hp hl => hne ad e hp ((h2 _).2 (.inr (.inl hl))))).mono ?_
  rintro e w' ⟨he, hd, hch⟩
  refine ⟨he, _, ⟨lb, cp, mb, _, 0, _, hd, fun b => Iff.rfl⟩, ?_, hch.mono (fun x hx => (h2 x).2 (by rcases hx with h | h; exact .inr (.inl h); exact .inr (.inr (.inl h))))⟩
  rintro b (h | h | h | ⟨i, hi, h⟩)
  · exact (h2 b).2 (.inl h)
  · exact (h2 b).2 (.inr (.inl h))
  · exact (h2 b).2 (.inr (.inr (.inl h)))
  · cases h
structure St (s : DS) (m i : Nat) (B : List Int) (c : Nat) : Prop where
  n : s.n = m
  W : s.W i = []
  L : s.L.getD i [] = B
  c : s.c ≤ c
theorem St.put {s : DS} {m i c : Nat} {B : List Int} (h : St s m i B c) (j : Nat) (b : List Int) (hj : j ≠ i) : St (s.put j b) m i B (c + 1) :=
  ⟨h.n, by show (if i = j then s.W j ++ [b] else s.W i) = []; rw [if_neg (Ne.symm hj)]; exact h.W, h.L, Nat.succ_le_succ h.c⟩
theorem St.mono {s : DS} {m i c c' : Nat} {B : List Int} (h : St s m i B c) (hc : c ≤ c') : St s m i B c' := ⟨h.n, h.W, h.L, Nat.le_trans h.c hc⟩
theorem St.cur {s : DS} {m i c : Nat} {B : List Int} (h : St s m i B c) : s.cur i = B := by rw [cur_nil h.W, h.L]
theorem St.crash {s : DS} {m i c : Nat} {B : List Int} (h : St s m i B c) (fs : List Int) : St (s.crash fs) m i B 0 := by
  have key : ∀ j, j ≤ s.keysN.length → (crashL s fs j).getD i [] = s.L.getD i [] := by
    intro j
    induction j with
    | zero => intro _; rfl
    | succ j ih =>
      intro hj
      unfold crashL
      split
      · have hk := (key_at s j (by omega)).2.1
        have hne : s.keysN.getD j 0 ≠ i := fun e => hk (by rw [e]; exact h.W)
        rw [List.getD_eq_getElem?_getD, List.getElem?_set_ne hne, ← List.getD_eq_getElem?_getD]
        exact ih (by omega)
      · exact ih (by omega)
  exact ⟨h.n, rfl, by show (crashL s fs _).getD i [] = B; rw [key _ (Nat.min_le_left _ _), h.L], Nat.le_refl _⟩
theorem St.reads {s : DS} {m i c : Nat} {B : List Int} (h : St s m i B c) : St s.reads m i B c := ⟨h.n, h.W, h.L, h.c⟩
theorem St.start {n i : Nat} {B : List Int} (hi : i < n) (L : List (List Int)) : St ((DS.fresh n L).put i B).flush n i B 0 := by
  refine ⟨rfl, rfl, ?_, Nat.le_refl _⟩
  show ((List.range n).map ((DS.fresh n L).put i B).cur).getD i [] = B
  rw [List.getD_eq_getElem?_getD, List.getElem?_map, List.getElem?_range hi]
  show ((DS.fresh n L).put i B).cur i = B
  rw [cur_put, if_pos rfl]
end Go.Proofs.Ytddnhcnkjcdfgaa.M

namespace Go.Proofs.Ytddnhcnkjcdfgaa.M
open Go.RowKit Go.Maps Go.Proofs.YtddnhcnkjcdfgaaW.PrintWords Go.Proofs.YtddnhcnkjcdfgaaW.PrintLast Go.Proofs.YtddnhcnkjcdfgaaW.PrintMore
set_option linter.unusedVariables false
set_option linter.unusedSimpArgs false
theorem DkIn.move {w w' : World} {base g lb cp mb k : Nat} {s : DS} {f : Nat → Value} {D : DataW Value} (h : DkIn w base g s lb cp mb f k D) (hm : ∀ b, Fp g lb mb f s.n b → w'.heap[b]? = w.heap[b]?) : DkIn w' base g s lb cp mb f k D := by
  refine ⟨(hm g (.inl rfl)).trans h.hd, h.la.step (fun b hb _ => hm b (.inr (.inl (Option.some.inj hb).symm))), ?_, h.kc, h.at_, h.ks, fun i hi => (h.rows i hi).step (fun b hb _ => hm b (.inr (.inr (.inr ⟨i, hi, hb⟩)))), h.wl, h.sep, h.sepl, h.gb, h.mbb, h.n2, h.nm⟩
  obtain ⟨es, ck, hb, r⟩ := h.mp
  exact ⟨es, ck, (hm mb (.inr (.inr (.inl rfl)))).trans hb, r⟩
def dkT (g : Nat) (s : DS) : Th where
  P := fun w F => ∃ base, DkAt w base g F s
  foot := by
    rintro w F ⟨base, h⟩ b hb
    exact (h.foot b hb).2
  step := by
    rintro w w' F ⟨base, lb, cp, mb, f, k, D, h1, h2⟩ h
    exact ⟨base, lb, cp, mb, f, k, D, h1.move (fun b hb => h b ((h2 b).2 hb)), h2⟩
section
variable {w0 w : World} {L : List Th} {g : Nat} {s : DS}
theorem Sep.read (h : Sep w0 w (dkT g s :: L)) (i : Nat) (hi : i < s.n) :
    Calls Try.prog 25 #[.pointer (some ⟨g, 0, none⟩), .int .i64 (i : Int)] w fun e w' => ∃ v, e = .returned (.tuple #[v, .int .i64 0]) ∧ Sep w0 w' (ownT (Kd.int .u8) 5 v (s.cur i) :: dkT g s.reads :: L) := by
  obtain ⟨F, ⟨base, h1⟩, h2, h3⟩ := h.open_
  refine (read_at g i w base F s h1 hi).mono ?_
  rintro e w' ⟨v, he, hr, hd, hc⟩
  refine ⟨v, he, h3 [ownT (Kd.int .u8) 5 v (s.cur i), dkT g s.reads] w' ⟨fun k => w.heap.size ≤ k ∧ k < w'.heap.size, ⟨⟨w.heap.size, Kd.R_mono (Kd.R_bound hr) (fun k hk => ⟨hk.2.1, hk.2.2.1⟩)⟩, fun b hb => hb.2⟩, fun b hb => .inr hb.1, F, ⟨base, hd⟩, fun b hb => ⟨.inl hb, fun hx => Nat.not_lt.2 hx.1 (h1.foot b hb).2⟩, trivial⟩ hc⟩
theorem Sep.flush (h : Sep w0 w (dkT g s :: L)) :
    Calls Try.prog 17 #[.pointer (some ⟨g, 0, none⟩)] w fun e w' => (∃ v, e = .returned v) ∧ Sep w0 w' (dkT g s.flush :: L) := by
  obtain ⟨F, ⟨base, h1⟩, h2, h3⟩ := h.open1
  refine (flush_at g w base F s h1).mono ?_
  rintro e w' ⟨he, F', hd, hF, hc⟩
  exact ⟨he, h3 (dkT g s.flush) w' F' ⟨base, hd⟩ (fun b hb => .inl (hF b hb)) hc⟩
theorem Sep.image (h : Sep w0 w (dkT g s :: L)) :
    Calls Try.prog 26 #[.pointer (some ⟨g, 0, none⟩)] w fun e w' => ∃ go c, e = .returned (.slice (some ⟨go, 0, none⟩) s.n c) ∧ Sep w0 w' (rowsT KB 28 (.slice (some ⟨go, 0, none⟩) s.n c) s.L :: dkT g s :: L) := by
  obtain ⟨F, ⟨base, h1⟩, h2, h3⟩ := h.open_
  refine (image_at g w base F s h1).mono ?_
  rintro e w' ⟨go, c, he, hr, hb⟩
  exact ⟨go, c, he, h.push_rows hr hb⟩
theorem Sep.write_own (v : Value) (b : List Int) (h : Sep w0 w (ownT (Kd.int .u8) 5 v b :: dkT g s :: L)) (i : Nat) (hi : i < s.n) (hc : s.c < 1073741824) (hb : b.length = 512) :
    Calls Try.prog 16 #[.pointer (some ⟨g, 0, none⟩), .int .i64 (i : Int), v] w fun e w' => e = .returned (.int .i64 0) ∧ Sep w0 w' (ownT (Kd.int .u8) 5 v b :: dkT g (s.put i b) :: L) := by
  obtain ⟨base0, ok, hr⟩ := h.own
  obtain ⟨A, c, rfl⟩ := Kd.R_slice hr
  rw [hb]
  have hC := (Kd.R_reads' hr).2.2
  rw [hb] at hC
  obtain ⟨G, ⟨hG1, hG2⟩, hG3, hG4⟩ := h.open_
  obtain ⟨U, ⟨F0, h1, h2, F, ⟨base, h4⟩, h5, _⟩, h6, h7⟩ := Sep.split (M := [ownT (Kd.int .u8) 5 (.slice A b.length c) b, dkT g s]) h
  refine (write_at g i A c b w base F s h4 hi hC (fun ad e hF => ?_) hc).mono ?_
  · obtain ⟨⟨b2, hr2⟩, _⟩ := h1
    obtain ⟨g2, c2, e2, _⟩ := Kd.R_form hr2 (by omega)
    rw [e] at e2
    injection e2 with e2
    cases e2
    exact (h5 _ hF).2 (hr2.1 _ (by rw [e]; rfl))
  · rintro e w' ⟨he, F', hd, hF, hch⟩
    rw [← hb]
    refine ⟨he, h7 [ownT (Kd.int .u8) 5 (.slice A b.length c) b, dkT g (s.put i b)] w' ⟨F0, Th.step _ h1 (fun x hx => hch.block x (Th.foot _ h1 x hx) (fun hF => (h5 x hF).2 hx)), fun x hx => .inl (h2 x hx), F', ⟨base, hd⟩, fun x hx => ?_, trivial⟩ (hch.mono (fun x hx => (h5 x hx).1))⟩
    rcases hF x hx with hx1 | hx1
    · exact ⟨.inl (h5 x hx1).1, (h5 x hx1).2⟩
    · exact ⟨.inr hx1, fun hx2 => Nat.not_lt.2 hx1 (Th.foot _ h1 x hx2)⟩
theorem Sep.crash_arg (h : Sep w0 w (dkT g s :: L)) (hc : s.c < 1073741824) (A1 : Option Addr) (c1 : Nat) (fs : List Int) (hC : (Kd.int .i64).C w0 A1 fs.length fs) :
    Calls Try.prog 30 #[.pointer (some ⟨g, 0, none⟩), .slice A1 fs.length c1] w fun e w' => (∃ v, e = .returned v) ∧ Sep w0 w' (dkT g (s.crash fs) :: L) := by
  obtain ⟨F, ⟨base, h1⟩, h2, h3⟩ := h.open1
  refine (crash_at g w base F s h1 hc A1 c1 fs (fun W hW => Kd.C_below hC (Chg.below h.below hW h.size h2)) (fun ad e hp hf => by
    have h1_ := h2 _ hf
    obtain ⟨ad2, e2, hcell⟩ := Kd.at_int hC 0 (by omega) (by omega)
    rw [e] at e2
    obtain rfl := Option.some.inj e2
    have h2_ := World.block_lt_of_cell? w0 _ hcell
    have e_ : (ad.add (0 : Int).toNat).block = ad.block := by unfold Addr.add; split <;> rfl
    rw [e_] at h2_
    omega)).mono ?_
  rintro e w' ⟨he, F', hd, hF', hx⟩
  exact ⟨he, h3 (dkT g (s.crash fs)) w' F' ⟨base, hd⟩ (fun b hb => .inl (hF' b hb)) hx⟩
end
theorem Sep.new {w0 w : World} {L : List Th} (h : Sep w0 w L) (n : Nat) (h2 : 2 ≤ n) (hm : n ≤ 65536) :
    Calls Try.prog 21 #[.int .i64 (n : Int)] w fun e w' => ∃ g, e = .returned (.tuple #[.pointer (some ⟨g, 0, none⟩), .int .i64 0]) ∧ Sep w0 w' (dkT g (DS.fresh n (List.replicate n zeros)) :: L) := by
  refine (new_calls n w h2 hm).mono ?_
  rintro e w' ⟨g, F, he, hd, hb⟩
  exact ⟨g, he, h.push (t := dkT g _) hb (F := F) ⟨_, hd⟩ (fun b hb => (hd.foot b hb).1)⟩
end Go.Proofs.Ytddnhcnkjcdfgaa.M

namespace Go.Proofs.Ytddnhcnkjcdfgaa.M
open Go.RowKit Go.Maps Go.Proofs.YtddnhcnkjcdfgaaW.PrintWords Go.Proofs.YtddnhcnkjcdfgaaW.PrintLast Go.Proofs.YtddnhcnkjcdfgaaW.PrintMore
set_option linter.unusedVariables false
set_option linter.unusedSimpArgs false
def mskB (r : Nat) : Int := ((2 ^ r : Nat) : Int)
def DS.turn (s : DS) (i bit : Nat) : DS := ⟨s.n, s.L.set i (flipL (bit / 8) (mskB (bit % 8)) (s.L.getD i [])), fun x => if x = i then (s.W i).map (flipL (bit / 8) (mskB (bit % 8))) else s.W x, s.c, s.r, s.wr, s.fl⟩
def DS.turnH (s : DS) (i q : Nat) (m : Int) (j : Nat) : DS := ⟨s.n, s.L.set i (flipL q m (s.L.getD i [])), fun x => if x = i then ((s.W i).take j).map (flipL q m) ++ (s.W i).drop j else s.W x, s.c, s.r, s.wr, s.fl⟩
theorem DS.turnH_W (s : DS) (i q : Nat) (m : Int) (j : Nat) : (s.turnH i q m j).W i = ((s.W i).take j).map (flipL q m) ++ (s.W i).drop j := by unfold DS.turnH; simp only [if_true]
theorem DS.turnH_len (s : DS) (i q : Nat) (m : Int) (j : Nat) (hj : j ≤ (s.W i).length) : ((s.turnH i q m j).W i).length = (s.W i).length := by
  rw [DS.turnH_W, List.length_append, List.length_map, List.length_take, List.length_drop]
  omega
theorem DS.turnH_at (s : DS) (i q : Nat) (m : Int) (j : Nat) (hj : j < (s.W i).length) : ((s.turnH i q m j).W i).getD j [] = (s.W i).getD j [] := by
  have hl : (((s.W i).take j).map (flipL q m)).length = j := by rw [List.length_map, List.length_take]; omega
  rw [DS.turnH_W, List.getD_eq_getElem?_getD, List.getElem?_append_right (by omega), hl, Nat.sub_self, List.getElem?_drop, Nat.add_zero, ← List.getD_eq_getElem?_getD]
theorem DS.turnH_succ (s : DS) (i q : Nat) (m : Int) (j : Nat) (hj : j < (s.W i).length) :
    (⟨(s.turnH i q m j).n, (s.turnH i q m j).L, fun x => if x = i then ((s.turnH i q m j).W i).set j ((((s.turnH i q m j).W i).getD j []).set q (bits .xor .u8 (((s.W i).getD j []).getD q 0) m)) else (s.turnH i q m j).W x, (s.turnH i q m j).c, (s.turnH i q m j).r, (s.turnH i q m j).wr, (s.turnH i q m j).fl⟩ : DS) = s.turnH i q m (j + 1) := by
  rw [s.turnH_at i q m j hj]
  unfold DS.turnH
  congr 1
  funext x
  dsimp only
  by_cases e : x = i
  · subst e
    simp only [if_true]
    have hl : (((s.W x).take j).map (flipL q m)).length = j := by rw [List.length_map, List.length_take]; omega
    rw [List.set_append_right _ _ (by omega), hl, Nat.sub_self, List.drop_eq_getElem_cons hj, List.set_cons_zero, List.take_succ_eq_append_getElem hj, List.map_append, List.append_assoc]
    congr 1
    rw [List.getD_eq_getElem?_getD, List.getElem?_eq_getElem hj]
    rfl
  · rw [if_neg e, if_neg e, if_neg e]
theorem DS.turnH_all (s : DS) (i q : Nat) (m : Int) : s.turnH i q m (s.W i).length = ⟨s.n, s.L.set i (flipL q m (s.L.getD i [])), fun x => if x = i then (s.W i).map (flipL q m) else s.W x, s.c, s.r, s.wr, s.fl⟩ := by
  unfold DS.turnH
  rw [List.take_length, List.drop_length, List.append_nil]
def turn6_T : Bool × List (List Nat × List Nat) := (true, [([], []), ([0], [0]), ([1], [1]), ([2], [2]), ([], []), ([], []), ([5], [5]), ([3, 4], [3, 4]), ([7, 6], [6, 7]), ([8], [8]), ([], []), ([9, 10], [9, 10]), ([3, 4], [3, 4]), ([12, 6, 0, 1, 2, 3, 4, 5, 6, 7, 8, 9, 10, 11], [6, 12]), ([13, 11, 0, 1, 2, 3, 4, 5, 6, 7, 8, 9, 10, 11], [11, 13])])
def turn6_B : List Nat := [0, 1, 3, 7, 0, 0, 32, 31, 255, 511, 0, 2047, 31, 8191, 16383]
theorem turn6_tab : rtab .any (opsOf Try.f33 6) = turn6_T := by kernel_rfl
theorem turn6_bits : waitsOk turn6_T.2 turn6_B = true := by kernel_rfl
def turn10_T : Bool × List (List Nat × List Nat) := (true, [([], []), ([0], [0]), ([1], [1]), ([2], [2]), ([], []), ([3, 4], [3, 4]), ([], []), ([], []), ([7], [7]), ([5, 6], [5, 6]), ([9, 8], [8, 9]), ([10], [10]), ([], []), ([11, 12], [11, 12]), ([5, 6], [5, 6]), ([14, 8, 0, 1, 2, 3, 4, 5, 6, 7, 8, 9, 10, 11, 12, 13], [8, 14]), ([15, 13, 0, 1, 2, 3, 4, 5, 6, 7, 8, 9, 10, 11, 12, 13], [13, 15])])
def turn10_B : List Nat := [0, 1, 3, 7, 0, 31, 0, 0, 128, 127, 1023, 2047, 0, 8191, 127, 32767, 65535]
theorem turn10_tab : rtab .any (opsOf Try.f33 10) = turn10_T := by kernel_rfl
theorem turn10_bits : waitsOk turn10_T.2 turn10_B = true := by kernel_rfl
set_option maxHeartbeats 1000000 in
set_option maxRecDepth 100000 in
theorem turn_in (g i bit : Nat) (w : World) (base lb cp mb k : Nat) (f : Nat → Value) (D : DataW Value) (s : DS) (h : DkIn w base g s lb cp mb f k D) (hi : i < s.n) (hb : bit < 4096) :
    Calls Try.prog 33 #[.pointer (some ⟨g, 0, none⟩), .int .i64 (i : Int), .int .i64 (bit : Int)] w fun e w' => e = .returned (.int .i64 0) ∧ DkIn w' base g (s.turn i bit) lb cp mb f k D ∧ Chg (fun x => x = lb ∨ (f i).ownBlock = some x) w w' := by
  have hn2 := h.n2
  have hnm := h.nm
  have hg0 : w.cell? ⟨g, 0, none⟩ = some (.slice (some ⟨lb, 0, none⟩) s.n cp) := blk_cell h.hd 0
  have Hout := Aside0.mk (show Calls Try.prog 41 #[.pointer (some ⟨g, 0, none⟩), .int .i64 (i : Int)] w fun e w' => e = .returned (.bool false) ∧ w' = w from by
    have h_ := outside_calls g (i : Int) s.n (some ⟨lb, 0, none⟩) cp w hg0
    rw [show (!decide (0 ≤ (i : Int) ∧ (i : Int) < (s.n : Int))) = false by simp; omega] at h_
    exact h_)
  have HI := Aside0.mk hi
  have hi0 : (0 : Int) ≤ (i : Int) := by omega
  have hi1 : (i : Int) < (s.n : Int) := by omega
  have hq8 : bit / 8 < 512 := by omega
  obtain ⟨q, hq⟩ : ∃ x, x = bit / 8 := ⟨_, rfl⟩
  obtain ⟨r, hr⟩ : ∃ x, x = bit % 8 := ⟨_, rfl⟩
  have hqi : (bit : Int) / 8 = (q : Int) := by omega
  have hri : (bit : Int) % 8 = (r : Int) := by omega
  rw [← hq] at hq8
  have hr8 : r < 8 := by omega
  have HQ := Aside0.mk hq
  have HR := Aside0.mk hr
  obtain ⟨hc, hf⟩ := h.la.cell1 i hi q hq8
  have H0 := Aside0.mk h
  have hb0 : decide ((bit : Int) < 0) = false := decide_eq_false (by omega)
  have hb1 : decide ((4096 : Int) ≤ (bit : Int)) = false := decide_eq_false (by omega)
  clear h hi hq hr
  go_enter Try.func33, Try.ntmps33
  go_upto_region 6 with (go_at_call 41; (with_reducible refine Hout.out.mono ?_); rintro e w1 ⟨rfl, hw_⟩; subst hw_)
  rw [hri]
  clear hri
  rw [show (2 : Int) ^ r % 256 = mskB r from by rcases r with _ | _ | _ | _ | _ | _ | _ | _ | r <;> first | rfl | omega]
  obtain ⟨m, hm⟩ : ∃ x, x = mskB r := ⟨_, rfl⟩
  rw [← hm]
  have HM := Aside0.mk hm
  have hq0 : (0 : Int) ≤ (q : Int) := by omega
  have hq1 : (q : Int) < 512 := by omega
  have hq2 : (q : Int).toNat = q := rfl
  obtain ⟨x, hx⟩ : ∃ x, x = (s.L.getD i []).getD q 0 := ⟨_, rfl⟩
  rw [← hx] at hc
  have HX := Aside0.mk hx
  clear hm hx
  have HB2 := Aside0.mk (below_drew1 (Below.refl w1.heap.size w1))
  have hf2 : w1.drew.frozen? ⟨lb, i * 512 + q, none⟩ = false := by simpa using hf
  have hqw : wrap64 (q : Int) = (q : Int) := by unfold wrap64; omega
  refine start_ (n := 15) (S := fun W => W.cell? ⟨g, 0, none⟩ = some (.slice (some ⟨lb, 0, none⟩) s.n cp) ∧ W.cell? ⟨lb, i * 512 + q, none⟩ = some (.int .u8 x)) (ds := [14]) (bb 15 0) (by kernel_rfl) rfl rfl (⟨hg0, hc⟩) (fun hHeld => ?_); refine with_tabW turn6_tab turn6_bits (fun HT_ HW_ => ?_)
  generalize w1.drew = w2 at hHeld HB2 hf2 ⊢
  refine pure_ (i := 0) (N := (some 23)) (v := ?_) (a' := ?_) (bb 15 1) rfl rfl (any_of HT_.out (by kernel_rfl)) (fun _ _ _ h => h) (Or.inl ⟨by rfl, ?_⟩) ?_ ?_
  rotate_left
  · intro w'
    go_simp
    with_reducible rfl
  rotate_left
  · simp only [Act.put, List.setIfInBounds_toArray, List.set_cons_zero, List.set_cons_succ, i64_w, i32_w]
    rfl
  refine pure_ (i := 1) (N := (some 24)) (v := ?_) (a' := ?_) (bb 15 3) rfl rfl (any_of HT_.out (by kernel_rfl)) (fun _ _ _ h => h) (Or.inl ⟨by rfl, ?_⟩) ?_ ?_
  rotate_left
  · intro w'
    go_simp
    with_reducible rfl
  rotate_left
  · simp only [Act.put, List.setIfInBounds_toArray, List.set_cons_zero, List.set_cons_succ, i64_w, i32_w]
    rfl
  refine pure_ (i := 2) (N := (some 25)) (v := ?_) (a' := ?_) (bb 15 7) rfl rfl (any_of HT_.out (by kernel_rfl)) (fun _ _ _ h => h) (Or.inl ⟨by rfl, ?_⟩) ?_ ?_
  rotate_left
  · intro w'
    go_simp
    with_reducible rfl
  rotate_left
  · simp only [Act.put, List.setIfInBounds_toArray, List.set_cons_zero, List.set_cons_succ, i64_w, i32_w]
    rfl
  refine take_ (i := 3) (N := (some 26)) (v := ?_) (a' := ?_) (bb 15 15) rfl rfl (take_ofW HT_.out HW_.out (by kernel_rfl)) (fun _ _ _ h => h) (Or.inl ⟨by rfl, ?_⟩) hHeld ?_ ?_
  rotate_left
  · intro w' s0
    (try dsimp only at s0)
    go_simp
    with_reducible rfl
  rotate_left
  · simp only [Act.put, List.setIfInBounds_toArray, List.set_cons_zero, List.set_cons_succ, i64_w, i32_w]
    rfl
  refine pure_ (i := 4) (N := (some 27)) (v := ?_) (a' := ?_) (bb 15 31) rfl rfl (any_of HT_.out (by kernel_rfl)) (fun _ _ _ h => h) (Or.inl ⟨by rfl, ?_⟩) ?_ ?_
  rotate_left
  · intro w'
    go_simp
    with_reducible rfl
  rotate_left
  · simp only [Act.put, List.setIfInBounds_toArray, List.set_cons_zero, List.set_cons_succ, i64_w, i32_w]
    rfl
  refine pure_ (i := 5) (N := (some 28)) (v := ?_) (a' := ?_) (bb 15 63) rfl rfl (any_of HT_.out (by kernel_rfl)) (fun _ _ _ h => h) (Or.inl ⟨by rfl, ?_⟩) ?_ ?_
  rotate_left
  · intro w'
    go_simp
    with_reducible rfl
  rotate_left
  · simp only [Act.put, List.setIfInBounds_toArray, List.set_cons_zero, List.set_cons_succ, i64_w, i32_w]
    rfl
  refine pure_ (i := 6) (N := (some 29)) (v := ?_) (a' := ?_) (bb 15 127) rfl rfl (any_of HT_.out (by kernel_rfl)) (fun _ _ _ h => h) (Or.inl ⟨by rfl, ?_⟩) ?_ ?_
  rotate_left
  · intro w'
    go_simp
    with_reducible rfl
  rotate_left
  · simp only [Act.put, List.setIfInBounds_toArray, List.set_cons_zero, List.set_cons_succ, i64_w, i32_w]
    rfl
  refine pure_ (i := 7) (N := (some 30)) (v := ?_) (a' := ?_) (bb 15 255) rfl rfl (any_of HT_.out (by kernel_rfl)) (fun _ _ _ h => h) (Or.inl ⟨by rfl, ?_⟩) ?_ ?_
  rotate_left
  · intro w'
    go_simp
    with_reducible rfl
  rotate_left
  · simp only [Act.put, List.setIfInBounds_toArray, List.set_cons_zero, List.set_cons_succ, i64_w, i32_w]
    rfl
  refine pure_ (i := 8) (N := (some 31)) (v := ?_) (a' := ?_) (bb 15 511) rfl rfl (any_of HT_.out (by kernel_rfl)) (fun _ _ _ h => h) (Or.inl ⟨by rfl, ?_⟩) ?_ ?_
  rotate_left
  · intro w'
    go_simp
    with_reducible rfl
  rotate_left
  · simp only [Act.put, List.setIfInBounds_toArray, List.set_cons_zero, List.set_cons_succ, i64_w, i32_w]
    rfl
  refine take_ (i := 9) (N := (some 32)) (v := ?_) (a' := ?_) (bb 15 1023) rfl rfl (take_ofW HT_.out HW_.out (by kernel_rfl)) (fun _ _ _ h => h) (Or.inl ⟨by rfl, ?_⟩) hHeld ?_ ?_
  rotate_left
  · intro w' s0
    (try dsimp only at s0)
    go_simp
    with_reducible rfl
  rotate_left
  · simp only [Act.put, List.setIfInBounds_toArray, List.set_cons_zero, List.set_cons_succ, i64_w, i32_w]
    rfl
  refine pure_ (i := 10) (N := (some 33)) (v := ?_) (a' := ?_) (bb 15 2047) rfl rfl (any_of HT_.out (by kernel_rfl)) (fun _ _ _ h => h) (Or.inl ⟨by rfl, ?_⟩) ?_ ?_
  rotate_left
  · intro w'
    go_simp
    with_reducible rfl
  rotate_left
  · simp only [Act.put, List.setIfInBounds_toArray, List.set_cons_zero, List.set_cons_succ, i64_w, i32_w]
    rfl
  refine pure_ (i := 11) (N := (some 34)) (v := ?_) (a' := ?_) (bb 15 4095) rfl rfl (any_of HT_.out (by kernel_rfl)) (fun _ _ _ h => h) (Or.inl ⟨by rfl, ?_⟩) ?_ ?_
  rotate_left
  · intro w'
    go_simp
    with_reducible rfl
  rotate_left
  · simp only [Act.put, List.setIfInBounds_toArray, List.set_cons_zero, List.set_cons_succ, i64_w, i32_w]
    rfl
  refine pure_ (i := 12) (N := (some 35)) (v := ?_) (a' := ?_) (bb 15 8191) rfl rfl (any_of HT_.out (by kernel_rfl)) (fun _ _ _ h => h) (Or.inl ⟨by rfl, ?_⟩) ?_ ?_
  rotate_left
  · intro w'
    go_simp
    with_reducible rfl
  rotate_left
  · simp only [Act.put, List.setIfInBounds_toArray, List.set_cons_zero, List.set_cons_succ, i64_w, i32_w]
    rfl
  refine pure_ (i := 13) (N := (some 36)) (v := ?_) (a' := ?_) (bb 15 16383) rfl rfl (any_of HT_.out (by kernel_rfl)) (fun _ _ _ h => h) (Or.inl ⟨by rfl, ?_⟩) ?_ ?_
  rotate_left
  · intro w'
    go_simp
    with_reducible rfl
  rotate_left
  · simp only [Act.put, List.setIfInBounds_toArray, List.set_cons_zero, List.set_cons_succ, i64_w, i32_w]
    rfl
  refine last_ (i := 14) (N := none) (bb 15 32767) rfl rfl (one_of HT_.out (by kernel_rfl)) (by decide) (fun K hK => ?_)
  refine skip_ (w1 := ?_) (by rfl) rfl ?_ ?_
  rotate_left
  · go_simp
    first | rfl | (constructor <;> rfl)
  refine hK.out _ _ ?_
  clear hK K
  refine done_ (done_of HT_.out (by kernel_rfl)) ?_
  have hs1 : (⟨s.n, s.L.set i ((s.L.getD i []).set q (bits .xor .u8 x m)), s.W, s.c, s.r, s.wr, s.fl⟩ : DS) = s.turnH i q m 0 := by
    unfold DS.turnH flipL
    rw [List.take_zero, List.map_nil, List.nil_append, List.drop_zero, ← HX.out]
    congr 1
    funext y
    by_cases e : y = i
    · rw [if_pos e, e]
    · rw [if_neg e]
  have HD0 := (H0.out.chg (G := fun _ => False) (Chg.of_below HB2.out) (fun _ _ => id)).putL1 i HI.out q hq8 (bits .xor .u8 x m)
  rw [hs1] at HD0
  have HD := Aside0.mk HD0.1
  have HC := Aside0.mk ((Chg.of_below (F := fun x => x = lb ∨ (f i).ownBlock = some x) HB2.out).trans (Chg.of_grown (F := fun x => x = lb) HD0.2 (fun k hk => (Option.some.inj hk).symm)) (fun x hx => .inl (.inl hx)))
  obtain ⟨A7, c7, e7⟩ := Kd.R_slice (H0.out.rows i HI.out)
  have HWl := Aside0.mk (Kd.R_reads' (e7 ▸ H0.out.rows i HI.out)).2.2.2.1
  clear hs1 HD0 hHeld HB2 hf2 hf hc hg0 hqw Hout
  generalize w2.setCell ⟨lb, i * 512 + q, none⟩ (.int .u8 (bits .xor .u8 x m)) = w3 at HD HC ⊢
  have hg1 : w3.cell? ⟨g, 1, none⟩ = some (.map (some mb)) := blk_cell HD.out.hd 1
  have hlk : (Instr.lookup 87 (.map (some mb)) (.int .i64 (i : Int)) false).run Try.prog w3 = .ok (.slice A7 (s.W i).length c7) w3 := e7 ▸ HD.out.look i HI.out
  have hW0 := HWl.out
  have HE := Aside0.mk e7
  obtain ⟨ln, hln⟩ : ∃ x, x = (s.W i).length := ⟨_, rfl⟩
  rw [← hln] at hlk hW0
  have HLN := Aside0.mk hln
  clear e7 hln
  go_wp2
  go_loopg [44] ln (fun kq v44 wr => ∃ j : Nat, v44 = .int .i64 j ∧ Aside0 (j + kq = ln) ∧ Aside0 (DkIn wr base g (s.turnH i q m j) lb cp mb f k D) ∧ Aside0 (Chg (fun x => x = lb ∨ (f i).ownBlock = some x) w1 wr))
  case atStart => exact ⟨0, rfl, ⟨Nat.zero_add _⟩, HD, HC⟩
  case round =>
    clear HD HC hg1 hlk
    obtain ⟨j, rfl, HJ, HD, HC⟩ := hrel
    by_cases hj : j < ln
    · have hjb : decide (j < ln) = true := decide_eq_true hj
      have hj0 : (0 : Int) ≤ (j : Int) := by omega
      have hj1 : (j : Int) < (ln : Int) := by omega
      have HJ1 := Aside0.mk hj
      obtain ⟨b7, c7', e7, _⟩ := Kd.R_form (H0.out.rows i HI.out) (by rw [← HLN.out]; omega)
      have e7' := HE.out
      rw [e7, ← HLN.out] at e7'
      injection e7' with e71 _ e72
      subst e71
      subst e72
      have hlj := s.turnH_len i q m j (by rw [← HLN.out]; omega)
      rw [← HLN.out] at hlj
      have e8 : f i = .slice (some ⟨b7, 0, none⟩) ((s.turnH i q m j).W i).length c7' := by rw [e7, hlj, HLN.out]
      obtain ⟨hy, hfy⟩ := (e8 ▸ HD.out.rows i HI.out).cell1 j (by rw [hlj]; exact hj) q hq8
      rw [s.turnH_at i q m j (by rw [← HLN.out]; exact hj)] at hy
      have HPW := Aside0.mk (fun v => (HD.out.chg (w' := wr.drew) (G := fun _ => False) ⟨rfl, rfl, rfl, Nat.le_refl _, fun _ _ _ => rfl⟩ (fun _ _ => id)).putW1 i HI.out e8 j (by rw [hlj]; exact hj) q hq8 v)
      obtain ⟨y, hy'⟩ : ∃ y, y = ((s.W i).getD j []).getD q 0 := ⟨_, rfl⟩
      rw [← hy'] at hy
      have HY := Aside0.mk hy'
      have hg1 : wr.cell? ⟨g, 1, none⟩ = some (.map (some mb)) := blk_cell HD.out.hd 1
      have hlk : (Instr.lookup 87 (.map (some mb)) (.int .i64 (i : Int)) false).run Try.prog wr.drew = .ok (.slice (some ⟨b7, 0, none⟩) ln c7') wr.drew := by
        have h_ := (HD.out.chg (w' := wr.drew) (G := fun _ => False) ⟨rfl, rfl, rfl, Nat.le_refl _, fun _ _ _ => rfl⟩ (fun _ _ => id)).look i HI.out
        rw [e7, ← HLN.out] at h_
        exact h_
      have HE8 := Aside0.mk (show (f i).ownBlock = some b7 from by rw [e7]; rfl)
      clear hj e7 e8 hlj hy'
      go_upto_region 10 with (fail)
      have HB5 := Aside0.mk (below_drew1 (Below.refl wr.heap.size wr))
      have hf5 : wr.drew.frozen? ⟨b7, j * 512 + q, none⟩ = false := by simpa using hfy
      have hqw : wrap64 (q : Int) = (q : Int) := by unfold wrap64; omega
      refine start_ (n := 17) (S := fun W => W.cell? ⟨g, 1, none⟩ = some (.map (some mb)) ∧ (Instr.lookup 87 (.map (some mb)) (.int .i64 (i : Int)) false).run Try.prog W = .ok (.slice (some ⟨b7, 0, none⟩) ln c7') W ∧ W.cell? ⟨b7, j * 512 + q, none⟩ = some (.int .u8 y)) (ds := [16]) (bb 17 0) (by kernel_rfl) rfl rfl (⟨hg1, hlk, hy⟩) (fun hHeld => ?_); refine with_tabW turn10_tab turn10_bits (fun HT_ HW_ => ?_)
      generalize wr.drew = w5 at hHeld HB5 hf5 HPW ⊢
      refine pure_ (i := 0) (N := (some 47)) (v := ?_) (a' := ?_) (bb 17 1) rfl rfl (any_of HT_.out (by kernel_rfl)) (fun _ _ _ h => h) (Or.inl ⟨by rfl, ?_⟩) ?_ ?_
      rotate_left
      · intro w'
        go_simp
        with_reducible rfl
      rotate_left
      · simp only [Act.put, List.setIfInBounds_toArray, List.set_cons_zero, List.set_cons_succ, i64_w, i32_w]
        rfl
      refine pure_ (i := 1) (N := (some 48)) (v := ?_) (a' := ?_) (bb 17 3) rfl rfl (any_of HT_.out (by kernel_rfl)) (fun _ _ _ h => h) (Or.inl ⟨by rfl, ?_⟩) ?_ ?_
      rotate_left
      · intro w'
        go_simp
        with_reducible rfl
      rotate_left
      · simp only [Act.put, List.setIfInBounds_toArray, List.set_cons_zero, List.set_cons_succ, i64_w, i32_w]
        rfl
      refine pure_ (i := 2) (N := (some 49)) (v := ?_) (a' := ?_) (bb 17 7) rfl rfl (any_of HT_.out (by kernel_rfl)) (fun _ _ _ h => h) (Or.inl ⟨by rfl, ?_⟩) ?_ ?_
      rotate_left
      · intro w'
        go_simp
        with_reducible rfl
      rotate_left
      · simp only [Act.put, List.setIfInBounds_toArray, List.set_cons_zero, List.set_cons_succ, i64_w, i32_w]
        rfl
      refine take_ (i := 3) (N := (some 50)) (v := ?_) (a' := ?_) (bb 17 15) rfl rfl (take_ofW HT_.out HW_.out (by kernel_rfl)) (fun _ _ _ h => h) (Or.inl ⟨by rfl, ?_⟩) hHeld ?_ ?_
      rotate_left
      · intro w' s0
        (try dsimp only at s0)
        go_simp
        with_reducible rfl
      rotate_left
      · simp only [Act.put, List.setIfInBounds_toArray, List.set_cons_zero, List.set_cons_succ, i64_w, i32_w]
        rfl
      refine pure_ (i := 4) (N := (some 51)) (v := ?_) (a' := ?_) (bb 17 31) rfl rfl (any_of HT_.out (by kernel_rfl)) (fun _ _ _ h => h) (Or.inl ⟨by rfl, ?_⟩) ?_ ?_
      rotate_left
      · intro w'
        go_simp
        with_reducible rfl
      rotate_left
      · simp only [Act.put, List.setIfInBounds_toArray, List.set_cons_zero, List.set_cons_succ, i64_w, i32_w]
        rfl
      refine take_ (i := 5) (N := (some 52)) (v := ?_) (a' := ?_) (bb 17 63) rfl rfl (take_ofW HT_.out HW_.out (by kernel_rfl)) (fun _ _ _ h => h) (Or.inl ⟨by rfl, ?_⟩) hHeld ?_ ?_
      rotate_left
      · intro w' s0
        (try dsimp only at s0)
        go_simp
        with_reducible rfl
      rotate_left
      · simp only [Act.put, List.setIfInBounds_toArray, List.set_cons_zero, List.set_cons_succ, i64_w, i32_w]
        rfl
      refine pure_ (i := 6) (N := (some 53)) (v := ?_) (a' := ?_) (bb 17 127) rfl rfl (any_of HT_.out (by kernel_rfl)) (fun _ _ _ h => h) (Or.inl ⟨by rfl, ?_⟩) ?_ ?_
      rotate_left
      · intro w'
        go_simp
        with_reducible rfl
      rotate_left
      · simp only [Act.put, List.setIfInBounds_toArray, List.set_cons_zero, List.set_cons_succ, i64_w, i32_w]
        rfl
      refine pure_ (i := 7) (N := (some 54)) (v := ?_) (a' := ?_) (bb 17 255) rfl rfl (any_of HT_.out (by kernel_rfl)) (fun _ _ _ h => h) (Or.inl ⟨by rfl, ?_⟩) ?_ ?_
      rotate_left
      · intro w'
        go_simp
        with_reducible rfl
      rotate_left
      · simp only [Act.put, List.setIfInBounds_toArray, List.set_cons_zero, List.set_cons_succ, i64_w, i32_w]
        rfl
      refine pure_ (i := 8) (N := (some 55)) (v := ?_) (a' := ?_) (bb 17 511) rfl rfl (any_of HT_.out (by kernel_rfl)) (fun _ _ _ h => h) (Or.inl ⟨by rfl, ?_⟩) ?_ ?_
      rotate_left
      · intro w'
        go_simp
        with_reducible rfl
      rotate_left
      · simp only [Act.put, List.setIfInBounds_toArray, List.set_cons_zero, List.set_cons_succ, i64_w, i32_w]
        rfl
      refine pure_ (i := 9) (N := (some 56)) (v := ?_) (a' := ?_) (bb 17 1023) rfl rfl (any_of HT_.out (by kernel_rfl)) (fun _ _ _ h => h) (Or.inl ⟨by rfl, ?_⟩) ?_ ?_
      rotate_left
      · intro w'
        go_simp
        with_reducible rfl
      rotate_left
      · simp only [Act.put, List.setIfInBounds_toArray, List.set_cons_zero, List.set_cons_succ, i64_w, i32_w]
        rfl
      refine pure_ (i := 10) (N := (some 57)) (v := ?_) (a' := ?_) (bb 17 2047) rfl rfl (any_of HT_.out (by kernel_rfl)) (fun _ _ _ h => h) (Or.inl ⟨by rfl, ?_⟩) ?_ ?_
      rotate_left
      · intro w'
        go_simp
        with_reducible rfl
      rotate_left
      · simp only [Act.put, List.setIfInBounds_toArray, List.set_cons_zero, List.set_cons_succ, i64_w, i32_w]
        rfl
      refine take_ (i := 11) (N := (some 58)) (v := ?_) (a' := ?_) (bb 17 4095) rfl rfl (take_ofW HT_.out HW_.out (by kernel_rfl)) (fun _ _ _ h => h) (Or.inl ⟨by rfl, ?_⟩) hHeld ?_ ?_
      rotate_left
      · intro w' s0
        (try dsimp only at s0)
        go_simp
        with_reducible rfl
      rotate_left
      · simp only [Act.put, List.setIfInBounds_toArray, List.set_cons_zero, List.set_cons_succ, i64_w, i32_w]
        rfl
      refine pure_ (i := 12) (N := (some 59)) (v := ?_) (a' := ?_) (bb 17 8191) rfl rfl (any_of HT_.out (by kernel_rfl)) (fun _ _ _ h => h) (Or.inl ⟨by rfl, ?_⟩) ?_ ?_
      rotate_left
      · intro w'
        go_simp
        with_reducible rfl
      rotate_left
      · simp only [Act.put, List.setIfInBounds_toArray, List.set_cons_zero, List.set_cons_succ, i64_w, i32_w]
        rfl
      refine pure_ (i := 13) (N := (some 60)) (v := ?_) (a' := ?_) (bb 17 16383) rfl rfl (any_of HT_.out (by kernel_rfl)) (fun _ _ _ h => h) (Or.inl ⟨by rfl, ?_⟩) ?_ ?_
      rotate_left
      · intro w'
        go_simp
        with_reducible rfl
      rotate_left
      · simp only [Act.put, List.setIfInBounds_toArray, List.set_cons_zero, List.set_cons_succ, i64_w, i32_w]
        rfl
      refine pure_ (i := 14) (N := (some 61)) (v := ?_) (a' := ?_) (bb 17 32767) rfl rfl (any_of HT_.out (by kernel_rfl)) (fun _ _ _ h => h) (Or.inl ⟨by rfl, ?_⟩) ?_ ?_
      rotate_left
      · intro w'
        go_simp
        with_reducible rfl
      rotate_left
      · simp only [Act.put, List.setIfInBounds_toArray, List.set_cons_zero, List.set_cons_succ, i64_w, i32_w]
        rfl
      refine pure_ (i := 15) (N := (some 62)) (v := ?_) (a' := ?_) (bb 17 65535) rfl rfl (any_of HT_.out (by kernel_rfl)) (fun _ _ _ h => h) (Or.inl ⟨by rfl, ?_⟩) ?_ ?_
      rotate_left
      · intro w'
        go_simp
        with_reducible rfl
      rotate_left
      · simp only [Act.put, List.setIfInBounds_toArray, List.set_cons_zero, List.set_cons_succ, i64_w, i32_w]
        rfl
      refine last_ (i := 16) (N := none) (bb 17 131071) rfl rfl (one_of HT_.out (by kernel_rfl)) (by decide) (fun K hK => ?_)
      refine skip_ (w1 := ?_) (by rfl) rfl ?_ ?_
      rotate_left
      · go_simp
        first | rfl | (constructor <;> rfl)
      refine hK.out _ _ ?_
      clear hK K
      refine done_ (done_of HT_.out (by kernel_rfl)) ?_
      have HN := Aside0.mk (show DkIn (w5.setCell ⟨b7, j * 512 + q, none⟩ (.int .u8 (bits .xor .u8 y m))) base g (s.turnH i q m (j + 1)) lb cp mb f k D ∧ w5.grownBy (w5.setCell ⟨b7, j * 512 + q, none⟩ (.int .u8 (bits .xor .u8 y m))) (some b7) from by
        have h_ := HPW.out (bits .xor .u8 (((s.W i).getD j []).getD q 0) m)
        rw [s.turnH_succ i q m j (by rw [← HLN.out]; exact HJ1.out)] at h_
        rw [HY.out]
        exact h_)
      have HCn := Aside0.mk ((HC.out.trans (Chg.of_below (F := fun _ => False) HB5.out) (fun _ h => h.elim)).trans (Chg.of_grown (F := fun x => x = b7) HN.out.2 (fun k hk => (Option.some.inj hk).symm)) (fun x hx => .inl (.inr (by rw [hx]; exact HE8.out))))
      clear hHeld hf5 HPW hqw HB5 hg1 hlk hy hfy
      generalize w5.setCell ⟨b7, j * 512 + q, none⟩ (.int .u8 (bits .xor .u8 y m)) = w6 at HN HCn ⊢
      go_wp2
      go_roundg (gk - 1)
      case measure => have := HJ.out; have := HJ1.out; omega
      case rel => exact ⟨j + 1, (by have hi_ := HJ1.out; have hl_ := hW0; first | rfl | (simp; done) | (rw [show wrap64 ((j : Int) + 1) = (j : Int) + 1 from by unfold wrap64; omega]; rfl)), ⟨by have := HJ.out; have := HJ1.out; omega⟩, ⟨HN.out.1⟩, HCn⟩
    · have hjb : decide (j < ln) = false := decide_eq_false hj
      obtain rfl : ln = j := by have := HJ.out; omega
      clear hj
      go_wp2
      go_ret
      refine ⟨rfl, ?_, HC.out⟩
      have h_ := HD.out
      rw [HLN.out, s.turnH_all i q m, HQ.out, HM.out, HR.out] at h_
      exact h_
end Go.Proofs.Ytddnhcnkjcdfgaa.M

namespace Go.Proofs.Ytddnhcnkjcdfgaa.M
open Go.RowKit Go.Maps Go.Proofs.YtddnhcnkjcdfgaaW.PrintWords Go.Proofs.YtddnhcnkjcdfgaaW.PrintLast Go.Proofs.YtddnhcnkjcdfgaaW.PrintMore
set_option linter.unusedVariables false
set_option linter.unusedSimpArgs false
theorem sectors_at (g : Nat) (w : World) (base : Nat) (F : Nat → Prop) (s : DS) (h : DkAt w base g F s) :
    Calls Try.prog 29 #[.pointer (some ⟨g, 0, none⟩)] w fun e w' => e = .returned (.int .i64 (s.n : Int)) ∧ w' = w := by
  obtain ⟨lb, cp, mb, f, k, D, h1, h2⟩ := h
  have hg0 : w.cell? ⟨g, 0, none⟩ = some (.slice (some ⟨lb, 0, none⟩) s.n cp) := blk_cell h1.hd 0
  clear h1 h2
  generalize s.n = n at *
  go_enter Try.func29, Try.ntmps29
  go_wp2
  go_ret
  exact ⟨rfl, rfl⟩
theorem fresh_in {w : World} {base lb cp n : Nat} {L : List (List Int)} (hr : Rs w base (.slice (some ⟨lb, 0, none⟩) n cp) L) (hb : base ≤ w.heap.size) (h2 : 2 ≤ n) (hm : n ≤ 65536) :
    DkIn ((w.alloc (.map #[] 0)).alloc (.cells #[.slice (some ⟨lb, 0, none⟩) n cp, .map (some w.heap.size), .int .i64 0, .int .i64 0, .int .i64 0] 89)) base (w.heap.size + 1) (DS.fresh n L) lb cp w.heap.size (fun _ => .slice none 0 0) 0 (.map []) := by
  have hs : (w.alloc (.map #[] 0)).heap.size = w.heap.size + 1 := by simp
  refine ⟨?_, ?_, ?_, Nat.le_refl _, fun i _ => rfl, fun kl h => by simp [Maps.has] at h, fun i _ => ⟨fun k hk => by simp [Value.ownBlock] at hk, OwnRow.none_ _ _ _ _ _⟩, fun i _ => Nat.le_refl _, fun i j b _ _ h => by simp [Value.ownBlock] at h, fun i _ => by simp [Value.ownBlock], by omega, hb, h2, hm⟩
  · have := heap_alloc_new (w.alloc (.map #[] 0)) (.cells #[.slice (some ⟨lb, 0, none⟩) n cp, .map (some w.heap.size), .int .i64 0, .int .i64 0, .int .i64 0] 89)
    rw [hs] at this
    exact this
  · exact (hr.below (below_alloc (Below.refl _ _) _)).below (below_alloc (Below.refl _ _) _)
  · exact (World.ownsMap_made w _ _ _).alloc _
theorem take_set2 {α : Type} (L : List α) (z d : α) (i : Nat) (hi : i < L.length) : (L.take i ++ List.replicate (L.length - i) z).set i (L.getD i d) = L.take (i + 1) ++ List.replicate (L.length - (i + 1)) z := by
  have hl : (L.take i).length = i := by rw [List.length_take]; omega
  rw [List.set_append_right _ _ (by omega), hl, Nat.sub_self]
  obtain ⟨m, hm⟩ : ∃ m, L.length - i = m + 1 := ⟨L.length - i - 1, by omega⟩
  rw [hm, List.replicate_succ, List.set_cons_zero, show L.length - (i + 1) = m by omega, List.take_succ_eq_append_getElem hi, List.getD_eq_getElem?_getD, List.getElem?_eq_getElem hi]
  simp only [List.append_assoc, List.singleton_append, Option.getD_some]
set_option maxHeartbeats 4000000 in
set_option maxRecDepth 100000 in
theorem load_calls (A : Option Addr) (c : Nat) (imgs : List (List Int)) (w : World) (h2 : 2 ≤ imgs.length) (hm : imgs.length ≤ 65536) (hC : KB.C w A imgs.length imgs) (hl : ∀ i, i < imgs.length → (imgs.getD i []).length = 512) :
    Calls Try.prog 28 #[.slice A imgs.length c] w fun e w' => ∃ g F, e = .returned (.tuple #[.pointer (some ⟨g, 0, none⟩), .int .i64 0]) ∧ DkAt w' w.heap.size g F (DS.fresh imgs.length imgs) ∧ Below w.heap.size w w' := by
  obtain ⟨n, hn⟩ : ∃ n, n = imgs.length := ⟨_, rfl⟩
  rw [← hn] at h2 hm hC hl ⊢
  have Hmany := Aside0.mk (fun (W : World) => (show Calls Try.prog 43 #[.int .i64 (n : Int)] W fun e w' => e = .returned (.bool true) ∧ w' = W from by
    have h_ := many_calls (n : Int) W
    rw [show decide (2 ≤ (n : Int) ∧ (n : Int) ≤ 65536) = true from decide_eq_true (by omega)] at h_
    exact h_))
  have H2 := Aside0.mk h2
  have HM := Aside0.mk hm
  have HC := Aside0.mk hC
  have HL := Aside0.mk hl
  have HN := Aside0.mk hn
  have hmm := @run_makeMap Try.prog
  have hz := Aside0.mk zeros_nums
  clear h2 hm hC hl hn
  go_enter Try.func28, Try.ntmps28
  go_upto_region 4 with (first
    | (go_at_call 43; (with_reducible refine (Hmany.out _).mono ?_); rintro e w1 ⟨rfl, hw_⟩; subst hw_)
    | (at_make; refine Kd.R_make sec (w0 := w1) w1.heap.size 91 rfl (N := 13) rfl 86 (.tmp 12) (.tmp 12) rfl (n : Int) rfl rfl Try.underlying86 (.agg (Array.replicate 512 (.int .u8 0))) 512 info91 (by simp [sec, Value.cells]) (by decide) (by decide) zeros (ok := fun _ => True) (okp := fun _ => True) ?mz (fun _ h => h) trivial (by omega) ?ml (Below.refl _ _) (Nat.le_refl _) ?_; (case mz => exact ⟨zeros_len, hz.out.symm⟩); (case ml => have := HM.out; omega); intro v8 w2 hr hb hg hat; obtain ⟨lb, cp, e8, hlb_, _, _⟩ := Kd.R_form hr (by rw [List.length_replicate]; have := H2.out; omega); rw [List.length_replicate, Int.toNat_natCast] at e8; subst e8; rw [Int.toNat_natCast] at hr; have HR := Aside0.mk (Rs.of hr); have HB := Aside0.mk hb; have HLB := Aside0.mk hlb_; clear hr hb hg hat hlb_))
  have HD0 := Aside0.mk (fresh_in HR.out (below_size HB.out) H2.out HM.out)
  have HB0 := Aside0.mk (below_alloc (below_alloc HB.out (.map #[] 0)) (.cells #[.slice (some ⟨lb, 0, none⟩) n cp, .map (some w2.heap.size), .int .i64 0, .int .i64 0, .int .i64 0] 89))
  clear HR HB Hmany hmm
  generalize hgg : w2.heap.size + 1 = g at HD0 ⊢
  generalize (w2.alloc (.map #[] 0)).alloc (.cells #[.slice (some ⟨lb, 0, none⟩) n cp, .map (some w2.heap.size), .int .i64 0, .int .i64 0, .int .i64 0] 89) = w5 at HD0 HB0 ⊢
  generalize w2.heap.size = mb at HD0 ⊢
  clear hgg
  go_wp2
  go_loopg [19] n (fun kq v19 wr => ∃ i : Nat, v19 = .int .i64 i ∧ Aside0 (i + kq = n) ∧ Aside0 (DkIn wr w1.heap.size g (DS.fresh n (imgs.take i ++ List.replicate (n - i) zeros)) lb cp mb (fun _ => .slice none 0 0) 0 (.map [])) ∧ Aside0 (Below w1.heap.size w1 wr))
  case atStart => exact ⟨0, rfl, ⟨Nat.zero_add _⟩, ⟨by simpa using HD0.out⟩, HB0⟩
  case round =>
    clear HD0 HB0
    obtain ⟨i, rfl, HI, HD, HB⟩ := hrel
    by_cases hi : i < n
    · have hib : decide (i < n) = true := decide_eq_true hi
      have hit : (i < n) = True := eq_true hi
      obtain ⟨ad3, ce, e3, hcl3, hK3, hcell3⟩ := Kd.C_get HC.out ([] : List Int) (i : Int) (by omega) (by omega)
      subst e3
      obtain ⟨Ay, cy, rfl, hly, hCy⟩ := hK3
      have hx3 := hcell3 0 _ rfl
      rw [Int.toNat_natCast, show i * KB.sz + 0 = i from Nat.mul_one i] at hx3
      rw [Int.toNat_natCast] at hly hCy
      replace hx3 := (HB.out.cell (World.block_lt_of_cell? w1 _ hx3)).trans hx3
      have h5 := HL.out i hi
      rw [h5] at hx3 hly hCy
      have HHI := Aside0.mk hi
      have hCw := Aside0.mk (show (Kd.int .u8).C w1 Ay 512 (imgs.getD i []) from hCy)
      have hCy' : (Kd.int .u8).C wr Ay 512 (imgs.getD i []) := Kd.C_below hCw.out HB.out
      clear hcell3 hCy hi
      obtain ⟨ad, rfl, hcc⟩ := Kd.at_int hCy' 0 (by omega) (by omega)
      have hspot := spot_of_C hCy' (by omega)
      obtain ⟨ab, ao, asp⟩ := ad
      obtain rfl : asp = none := hspot
      have hrange := rangeAt_of_C hCy' rfl
      clear hCy' hcc
      go_upto_region 9 with (fail)
      obtain ⟨bC, hbC⟩ : ∃ x, x = imgs.getD i [] := ⟨_, rfl⟩
      have HbC := Aside0.mk hbC
      have H5 := Aside0.mk (show bC.length = 512 from by rw [hbC]; exact h5)
      rw [← hbC] at hrange
      have hth : wr.there lb (i * 512) 512 := (sec_at HD.out.la i HHI.out).2.2
      have hlbg : lb ≠ g := HD.out.lbg
      have habl : ab ≠ lb := by
        have h_ := (HD.out.la.typed rfl).1
        obtain ⟨ad9, e9, hc9⟩ := Kd.at_int hCw.out 0 (by omega) (by omega)
        obtain rfl := Option.some.inj e9
        have h2_ := World.block_lt_of_cell? w1 _ hc9
        have e_ : ((⟨ab, ao, none⟩ : Addr).add (0 : Int).toNat).block = ab := by unfold Addr.add; split <;> rfl
        rw [e_] at h2_
        have h3_ : w1.heap.size ≤ lb := h_
        intro e
        rw [e] at h2_
        exact Nat.not_lt.2 h3_ h2_
      have hg0 : wr.cell? ⟨g, 0, none⟩ = some (.slice (some ⟨lb, 0, none⟩) n cp) := blk_cell HD.out.hd 0
      have hi0 : (0 : Int) ≤ (i : Int) := by omega
      have hsap := sap (some ⟨ab, ao, none⟩) cy
      have hcl : (nums .u8 bC).length = 512 := by rw [nums_length, H5.out]
      have hnb := nums_one bC
      have hu91 := Try.underlying91
      have hi91 : (Try.prog.info? 91).map (·.size) = some (nums .u8 bC).length := by rw [hcl]; exact size91
      generalize hcb : nums .u8 bC = cb at *
      have HCB := Aside0.mk hcb
      clear hcb hbC h5
      go_region_held3 (fun W => W.cell? ⟨g, 0, none⟩ = some (.slice (some ⟨lb, 0, none⟩) n cp) ∧ W.rangeAt ab ao cb ∧ W.there lb (i * 512) 512) (first | assumption | (simp only [World.cell?_drew]; exact ⟨hg0, hrange, hth⟩) | exact ⟨(World.cell?_setCells_out lb cb _ _ _ (fun e => absurd e.symm hlbg)).trans hg0, World.rangeAt_setCells_apart (w := wr.drew) hrange lb _ cb (.inl habl), World.there_setCells (w := wr.drew) hth lb _ cb⟩ | fail) (fail)
      have HP := (HD.out.chg (G := fun _ => False) (w' := wr.drew) ⟨rfl, rfl, rfl, Nat.le_refl _, fun _ _ _ => rfl⟩ (fun _ _ => id)).putL i HHI.out bC H5.out
      rw [HCB.out] at HP
      have hLe : (imgs.take i ++ List.replicate (n - i) zeros).set i bC = imgs.take (i + 1) ++ List.replicate (n - (i + 1)) zeros := by
        rw [HbC.out, HN.out]
        exact take_set2 imgs zeros [] i (by have := HHI.out; have := HN.out; omega)
      have HD6 := Aside0.mk (show DkIn (wr.drew.setCells lb (i * 512) cb) w1.heap.size g (DS.fresh n (imgs.take (i + 1) ++ List.replicate (n - (i + 1)) zeros)) lb cp mb (fun _ => .slice none 0 0) 0 (.map []) from by
        rw [← hLe]; exact HP.1)
      have HB6 := Aside0.mk (Chg.below HB.out ((Chg.trans (F := fun x => x = lb) (b := wr.drew) (G := fun x => x = lb) ⟨rfl, rfl, rfl, Nat.le_refl _, fun _ _ _ => rfl⟩ (Chg.of_grown HP.2 (fun x hx => (Option.some.inj hx).symm)) (fun x hx => .inl hx))) (below_size HB.out) (fun x hx => by subst hx; exact (HD.out.la.typed rfl).1))
      clear HP hrange hth hg0 hsap hx3 hLe
      generalize wr.drew.setCells lb (i * 512) cb = w7 at HD6 HB6 ⊢
      go_wp2
      go_roundg (gk - 1)
      case measure => have := HI.out; have := HHI.out; omega
      case rel => exact ⟨i + 1, (by have hi_ := HHI.out; have hm_ := HM.out; first | rfl | (simp; done) | (rw [show wrap64 ((i : Int) + 1) = (i : Int) + 1 from by unfold wrap64; omega]; rfl)), ⟨by have := HI.out; have := HHI.out; omega⟩, HD6, HB6⟩
    · have hib : decide (i < n) = false := decide_eq_false hi
      have HHI := Aside0.mk hi
      clear hi
      go_wp2
      go_ret2
      refine ⟨g, Fp g lb mb (fun _ => .slice none 0 0) n, rfl, ⟨lb, cp, mb, fun _ => .slice none 0 0, 0, .map [], ?_, fun b => Iff.rfl⟩, HB.out⟩
      have h1 := HD.out
      have e : i = n := by have := HI.out; have := HHI.out; omega
      rw [e, Nat.sub_self, List.replicate_zero, List.append_nil, show imgs.take n = imgs from by rw [HN.out]; exact List.take_length] at h1
      exact h1
end Go.Proofs.Ytddnhcnkjcdfgaa.M

namespace Go.Proofs.Ytddnhcnkjcdfgaa.M
open Go.RowKit Go.Maps Go.Proofs.YtddnhcnkjcdfgaaW.PrintWords Go.Proofs.YtddnhcnkjcdfgaaW.PrintLast Go.Proofs.YtddnhcnkjcdfgaaW.PrintMore
set_option linter.unusedVariables false
set_option linter.unusedSimpArgs false
set_option maxHeartbeats 1000000 in
set_option maxRecDepth 100000 in
theorem acts_calls (g : Nat) (w : World) (a b : Value) (r wr fl : Int) (h : w.heap[g]? = some (.cells #[a, b, .int .i64 r, .int .i64 wr, .int .i64 fl] 89 (0, 0))) :
    Calls Try.prog 35 #[.pointer (some ⟨g, 0, none⟩)] w fun e w' => e = .returned (.agg #[.int .i64 r, .int .i64 wr, .int .i64 fl]) ∧ Below w.heap.size w w' := by
  have h2 : w.cell? ⟨g, 2, none⟩ = some (.int .i64 r) := blk_cell h 2
  have h3 : w.cell? ⟨g, 3, none⟩ = some (.int .i64 wr) := blk_cell h 3
  have h4 : w.cell? ⟨g, 4, none⟩ = some (.int .i64 fl) := blk_cell h 4
  have hlt : g < w.heap.size := blk_lt h
  clear h
  go_enter Try.func35, Try.ntmps35
  go_wp2
  exact bodyPost_ret (v := .agg #[.int .i64 r, .int .i64 wr, .int .i64 fl]) (by simp [results, Try.results35, go_sem]) rfl ⟨rfl, (Below.refl _ _).alloc (Nat.le_refl _) _⟩
section
variable {w : World} {base g lb cp mb k : Nat} {s : DS} {f : Nat → Value} {D : DataW Value}
set_option maxHeartbeats 1000000 in
set_option maxRecDepth 100000 in
theorem read_none (h : DkIn w base g s lb cp mb f k D) (n : Int) (hn : ¬ (0 ≤ n ∧ n < (s.n : Int))) :
    Calls Try.prog 25 #[.pointer (some ⟨g, 0, none⟩), .int .i64 n] w fun e w' => e = .returned (.tuple #[.slice none 0 0, .int .i64 31]) ∧ w' = w := by
  have Hout := Aside0.mk (show Calls Try.prog 41 #[.pointer (some ⟨g, 0, none⟩), .int .i64 n] w fun e w' => e = .returned (.bool true) ∧ w' = w from by
    have h_ := outside_calls g n s.n (some ⟨lb, 0, none⟩) cp w (blk_cell h.hd 0)
    rw [show (!decide (0 ≤ n ∧ n < (s.n : Int))) = true by rw [decide_eq_false hn]; rfl] at h_
    exact h_)
  clear h hn
  go_enter Try.func25, Try.ntmps25
  go_wp2_with (go_at_call 41; (with_reducible refine Hout.out.mono ?_); rintro e w1 ⟨rfl, hw_⟩; subst hw_)
  go_ret2
  exact ⟨rfl, rfl⟩
set_option maxHeartbeats 1000000 in
set_option maxRecDepth 100000 in
theorem write_none (h : DkIn w base g s lb cp mb f k D) (n : Int) (hn : ¬ (0 ≤ n ∧ n < (s.n : Int))) (A : Option Addr) (l c : Nat) :
    Calls Try.prog 16 #[.pointer (some ⟨g, 0, none⟩), .int .i64 n, .slice A l c] w fun e w' => e = .returned (.int .i64 31) ∧ w' = w := by
  have Hout := Aside0.mk (show Calls Try.prog 41 #[.pointer (some ⟨g, 0, none⟩), .int .i64 n] w fun e w' => e = .returned (.bool true) ∧ w' = w from by
    have h_ := outside_calls g n s.n (some ⟨lb, 0, none⟩) cp w (blk_cell h.hd 0)
    rw [show (!decide (0 ≤ n ∧ n < (s.n : Int))) = true by rw [decide_eq_false hn]; rfl] at h_
    exact h_)
  clear h hn
  go_enter Try.func16, Try.ntmps16
  go_wp2_with (go_at_call 41; (with_reducible refine Hout.out.mono ?_); rintro e w1 ⟨rfl, hw_⟩; subst hw_)
  go_ret
  exact ⟨rfl, rfl⟩
set_option maxHeartbeats 1000000 in
set_option maxRecDepth 100000 in
theorem write_size (h : DkIn w base g s lb cp mb f k D) (n : Int) (hn : 0 ≤ n ∧ n < (s.n : Int)) (A : Option Addr) (l c : Nat) (hl : l ≠ 512) (hm : l ≤ 9223372036854775807) :
    Calls Try.prog 16 #[.pointer (some ⟨g, 0, none⟩), .int .i64 n, .slice A l c] w fun e w' => e = .returned (.int .i64 32) ∧ w' = w := by
  have Hout := Aside0.mk (show Calls Try.prog 41 #[.pointer (some ⟨g, 0, none⟩), .int .i64 n] w fun e w' => e = .returned (.bool false) ∧ w' = w from by
    have h_ := outside_calls g n s.n (some ⟨lb, 0, none⟩) cp w (blk_cell h.hd 0)
    rw [show (!decide (0 ≤ n ∧ n < (s.n : Int))) = false by rw [decide_eq_true hn]; rfl] at h_
    exact h_)
  have hl1 : ((l : Int) != 512) = true := bne_iff_ne.mpr (by omega)
  clear h hn hl
  go_enter Try.func16, Try.ntmps16
  go_wp2_with (go_at_call 41; (with_reducible refine Hout.out.mono ?_); rintro e w1 ⟨rfl, hw_⟩; subst hw_)
  go_ret
  exact ⟨rfl, rfl⟩
set_option maxHeartbeats 1000000 in
set_option maxRecDepth 100000 in
theorem turn_none (h : DkIn w base g s lb cp mb f k D) (n b : Int) (hn : ¬ (0 ≤ n ∧ n < (s.n : Int))) :
    Calls Try.prog 33 #[.pointer (some ⟨g, 0, none⟩), .int .i64 n, .int .i64 b] w fun e w' => e = .returned (.int .i64 31) ∧ w' = w := by
  have Hout := Aside0.mk (show Calls Try.prog 41 #[.pointer (some ⟨g, 0, none⟩), .int .i64 n] w fun e w' => e = .returned (.bool true) ∧ w' = w from by
    have h_ := outside_calls g n s.n (some ⟨lb, 0, none⟩) cp w (blk_cell h.hd 0)
    rw [show (!decide (0 ≤ n ∧ n < (s.n : Int))) = true by rw [decide_eq_false hn]; rfl] at h_
    exact h_)
  clear h hn
  go_enter Try.func33, Try.ntmps33
  go_wp2_with (go_at_call 41; (with_reducible refine Hout.out.mono ?_); rintro e w1 ⟨rfl, hw_⟩; subst hw_)
  go_ret
  exact ⟨rfl, rfl⟩
set_option maxHeartbeats 1000000 in
set_option maxRecDepth 100000 in
theorem turn_bit (h : DkIn w base g s lb cp mb f k D) (n b : Int) (hn : 0 ≤ n ∧ n < (s.n : Int)) (hb : b < 0 ∨ 4096 ≤ b) :
    Calls Try.prog 33 #[.pointer (some ⟨g, 0, none⟩), .int .i64 n, .int .i64 b] w fun e w' => e = .returned (.int .i64 1) ∧ w' = w := by
  have Hout := Aside0.mk (show Calls Try.prog 41 #[.pointer (some ⟨g, 0, none⟩), .int .i64 n] w fun e w' => e = .returned (.bool false) ∧ w' = w from by
    have h_ := outside_calls g n s.n (some ⟨lb, 0, none⟩) cp w (blk_cell h.hd 0)
    rw [show (!decide (0 ≤ n ∧ n < (s.n : Int))) = false by rw [decide_eq_true hn]; rfl] at h_
    exact h_)
  clear h hn
  rcases hb with hb | hb
  · have hb1 : decide (b < 0) = true := decide_eq_true hb
    go_enter Try.func33, Try.ntmps33
    go_wp2_with (go_at_call 41; (with_reducible refine Hout.out.mono ?_); rintro e w1 ⟨rfl, hw_⟩; subst hw_)
    all_goals (go_ret; exact ⟨rfl, rfl⟩)
  · have hb1 : decide (b < 0) = false := decide_eq_false (by omega)
    have hb2 : decide (4096 ≤ b) = true := decide_eq_true hb
    go_enter Try.func33, Try.ntmps33
    go_wp2_with (go_at_call 41; (with_reducible refine Hout.out.mono ?_); rintro e w1 ⟨rfl, hw_⟩; subst hw_)
    all_goals (go_ret; exact ⟨rfl, rfl⟩)
end
section
variable {w0 w : World} {L : List Th} {g : Nat} {s : DS}
theorem Sep.turn (h : Sep w0 w (dkT g s :: L)) (i bit : Nat) (hi : i < s.n) (hb : bit < 4096) :
    Calls Try.prog 33 #[.pointer (some ⟨g, 0, none⟩), .int .i64 (i : Int), .int .i64 (bit : Int)] w fun e w' => e = .returned (.int .i64 0) ∧ Sep w0 w' (dkT g (s.turn i bit) :: L) := by
  obtain ⟨F, ⟨base, lb, cp, mb, f, k, D, h1, hF⟩, h2, h3⟩ := h.open1
  refine (turn_in g i bit w base lb cp mb k f D s h1 hi hb).mono ?_
  rintro e w' ⟨he, hd, hc⟩
  exact ⟨he, h3 (dkT g (s.turn i bit)) w' F ⟨base, lb, cp, mb, f, k, D, hd, hF⟩ (fun b hb => .inl hb) (hc.mono (fun x hx => (hF x).2 (by rcases hx with rfl | hx; exact .inr (.inl rfl); exact .inr (.inr (.inr ⟨i, hi, hx⟩)))))⟩
theorem Sep.acts (h : Sep w0 w (dkT g s :: L)) :
    Calls Try.prog 35 #[.pointer (some ⟨g, 0, none⟩)] w fun e w' => e = .returned (.agg #[.int .i64 s.r, .int .i64 s.wr, .int .i64 s.fl]) ∧ Sep w0 w' (dkT g s :: L) := by
  obtain ⟨F, ⟨base, lb, cp, mb, f, k, D, h1, hF⟩, h2⟩ := h.get
  refine (acts_calls g w _ _ _ _ _ h1.hd).mono ?_
  rintro e w' ⟨he, hb⟩
  exact ⟨he, h.step hb⟩
theorem Sep.sectors (h : Sep w0 w (dkT g s :: L)) :
    Calls Try.prog 29 #[.pointer (some ⟨g, 0, none⟩)] w fun e w' => e = .returned (.int .i64 (s.n : Int)) ∧ w' = w := by
  obtain ⟨F, ⟨base, h1⟩, h2⟩ := h.get
  exact sectors_at g w base F s h1
theorem Sep.read_none (h : Sep w0 w (dkT g s :: L)) (n : Int) (hn : ¬ (0 ≤ n ∧ n < (s.n : Int))) :
    Calls Try.prog 25 #[.pointer (some ⟨g, 0, none⟩), .int .i64 n] w fun e w' => e = .returned (.tuple #[.slice none 0 0, .int .i64 31]) ∧ w' = w := by
  obtain ⟨F, ⟨base, lb, cp, mb, f, k, D, h1, hF⟩, h2⟩ := h.get
  exact M.read_none h1 n hn
theorem Sep.write_none (h : Sep w0 w (dkT g s :: L)) (n : Int) (hn : ¬ (0 ≤ n ∧ n < (s.n : Int))) (A : Option Addr) (l c : Nat) :
    Calls Try.prog 16 #[.pointer (some ⟨g, 0, none⟩), .int .i64 n, .slice A l c] w fun e w' => e = .returned (.int .i64 31) ∧ w' = w := by
  obtain ⟨F, ⟨base, lb, cp, mb, f, k, D, h1, hF⟩, h2⟩ := h.get
  exact M.write_none h1 n hn A l c
theorem Sep.write_size (h : Sep w0 w (dkT g s :: L)) (n : Int) (hn : 0 ≤ n ∧ n < (s.n : Int)) (A : Option Addr) (l c : Nat) (hl : l ≠ 512) (hm : l ≤ 9223372036854775807) :
    Calls Try.prog 16 #[.pointer (some ⟨g, 0, none⟩), .int .i64 n, .slice A l c] w fun e w' => e = .returned (.int .i64 32) ∧ w' = w := by
  obtain ⟨F, ⟨base, lb, cp, mb, f, k, D, h1, hF⟩, h2⟩ := h.get
  exact M.write_size h1 n hn A l c hl hm
theorem Sep.turn_none (h : Sep w0 w (dkT g s :: L)) (n b : Int) (hn : ¬ (0 ≤ n ∧ n < (s.n : Int))) :
    Calls Try.prog 33 #[.pointer (some ⟨g, 0, none⟩), .int .i64 n, .int .i64 b] w fun e w' => e = .returned (.int .i64 31) ∧ w' = w := by
  obtain ⟨F, ⟨base, lb, cp, mb, f, k, D, h1, hF⟩, h2⟩ := h.get
  exact M.turn_none h1 n b hn
theorem Sep.turn_bit (h : Sep w0 w (dkT g s :: L)) (n b : Int) (hn : 0 ≤ n ∧ n < (s.n : Int)) (hb : b < 0 ∨ 4096 ≤ b) :
    Calls Try.prog 33 #[.pointer (some ⟨g, 0, none⟩), .int .i64 n, .int .i64 b] w fun e w' => e = .returned (.int .i64 1) ∧ w' = w := by
  obtain ⟨F, ⟨base, lb, cp, mb, f, k, D, h1, hF⟩, h2⟩ := h.get
  exact M.turn_bit h1 n b hn hb
end
end Go.Proofs.Ytddnhcnkjcdfgaa.M

namespace Go.Proofs.Ytddnhcnkjcdfgaa.M
open Go.RowKit Go.Maps Go.Proofs.YtddnhcnkjcdfgaaW.PrintWords Go.Proofs.YtddnhcnkjcdfgaaW.PrintLast Go.Proofs.YtddnhcnkjcdfgaaW.PrintMore
open Go.Proofs.Ytddnhcnkjcdfgaa.P
set_option linter.unusedVariables false
set_option linter.unusedSimpArgs false
def Two (w2 w' : World) (b1 g1 b2 g2 : Nat) (F1 F2 : Nat → Prop) (s1 s2 : DS) : Prop :=
  ∃ Fd Fe, DkAt w' b1 g1 Fd s1 ∧ DkAt w' b2 g2 Fe s2 ∧ (∀ x, Fd x → ¬ Fe x) ∧ (∀ x, Fd x → F1 x ∨ w2.heap.size ≤ x) ∧ (∀ x, Fe x → F2 x ∨ w2.heap.size ≤ x) ∧ Chg (fun x => F1 x ∨ F2 x) w2 w'
section
variable {w2 w' : World} {b1 g1 b2 g2 : Nat} {F1 F2 : Nat → Prop} {s1 s2 : DS}
theorem Two.start (h1 : DkAt w2 b1 g1 F1 s1) (h2 : DkAt w2 b2 g2 F2 s2) (hd : ∀ x, F1 x → ¬ F2 x) : Two w2 w2 b1 g1 b2 g2 F1 F2 s1 s2 :=
  ⟨F1, F2, h1, h2, hd, fun x h => .inl h, fun x h => .inl h, Chg.refl _ _⟩
theorem Two.swap (h : Two w2 w' b1 g1 b2 g2 F1 F2 s1 s2) : Two w2 w' b2 g2 b1 g1 F2 F1 s2 s1 := by
  obtain ⟨Fd, Fe, h1, h2, hd, e1, e2, hc⟩ := h
  exact ⟨Fe, Fd, h2, h1, fun x h h' => hd x h' h, e2, e1, hc.mono (fun x hx => hx.symm)⟩
theorem Two.chg (h : Two w2 w' b1 g1 b2 g2 F1 F2 s1 s2) : Chg (fun x => F1 x ∨ F2 x) w2 w' := by
  obtain ⟨_, _, _, _, _, _, _, hc⟩ := h
  exact hc
theorem Two.below {w'' : World} (h : Two w2 w' b1 g1 b2 g2 F1 F2 s1 s2) (hb : Below w'.heap.size w' w'') : Two w2 w'' b1 g1 b2 g2 F1 F2 s1 s2 := by
  obtain ⟨Fd, Fe, h1, h2, hd, e1, e2, hc⟩ := h
  exact ⟨Fd, Fe, h1.below hb, h2.below hb, hd, e1, e2, hc.trans (Chg.of_below (F := fun _ => False) hb) (fun _ h => h.elim)⟩
theorem Two.n (h : Two w2 w' b1 g1 b2 g2 F1 F2 s1 s2) : 2 ≤ s1.n ∧ s1.n ≤ 65536 := by
  obtain ⟨Fd, Fe, h1, _⟩ := h
  exact h1.n_le
theorem Two.flush (h : Two w2 w' b1 g1 b2 g2 F1 F2 s1 s2) :
    Calls Try.prog 17 #[.pointer (some ⟨g1, 0, none⟩)] w' fun e w'' => (∃ v, e = .returned v) ∧ Two w2 w'' b1 g1 b2 g2 F1 F2 s1.flush s2 ∧ Chg (fun x => F1 x ∨ w2.heap.size ≤ x) w' w'' := by
  obtain ⟨Fd, Fe, h1, h2, hd, e1, e2, hch⟩ := h
  refine (flush_at g1 w' b1 Fd s1 h1).mono ?_
  rintro e w'' ⟨he, F', hdk, hF, hx⟩
  exact ⟨he, ⟨F', Fe, hdk, h2.chg hx (fun x hx' hF => hd x hF hx'), fun x hx' => hd x (hF x hx'), fun x hx' => e1 x (hF x hx'), e2, hch.trans hx (fun x hx' => (e1 x hx').imp .inl id)⟩, hx.mono e1⟩
theorem Two.crash {w : World} (h : Two w2 w' b1 g1 b2 g2 F1 F2 s1 s2) (hc : s1.c < 1073741824) (A1 : Option Addr) (c1 : Nat) (fs : List Int) (hC : (Kd.int .i64).C w A1 fs.length fs) (hb : Below w.heap.size w w') (hF : ∀ x, F1 x → w.heap.size ≤ x) (hw : w.heap.size ≤ w2.heap.size) :
    Calls Try.prog 30 #[.pointer (some ⟨g1, 0, none⟩), .slice A1 fs.length c1] w' fun e w'' => (∃ v, e = .returned v) ∧ Two w2 w'' b1 g1 b2 g2 F1 F2 (s1.crash fs) s2 ∧ Chg (fun x => F1 x ∨ w2.heap.size ≤ x) w' w'' := by
  obtain ⟨Fd, Fe, h1, h2, hd, e1, e2, hch⟩ := h
  have hge : ∀ x, Fd x → w.heap.size ≤ x := fun x hx => (e1 x hx).elim (hF x) (Nat.le_trans hw)
  refine (crash_at g1 w' b1 Fd s1 h1 hc A1 c1 fs (fun W hW => Kd.C_below hC (Chg.below hb hW (below_size hb) hge)) (fun ad e hp hf => by
    have h1_ := hge _ hf
    obtain ⟨ad2, e2, hcell⟩ := Kd.at_int hC 0 (by omega) (by omega)
    rw [e] at e2
    obtain rfl := Option.some.inj e2
    have h2_ := World.block_lt_of_cell? w _ hcell
    have e_ : (ad.add (0 : Int).toNat).block = ad.block := by unfold Addr.add; split <;> rfl
    rw [e_] at h2_
    omega)).mono ?_
  rintro e w'' ⟨he, F', hdk, hF', hx⟩
  exact ⟨he, ⟨F', Fe, hdk, h2.chg hx (fun x hx' hF => hd x hF hx'), fun x hx' => hd x (hF' x hx'), fun x hx' => e1 x (hF' x hx'), e2, hch.trans hx (fun x hx' => (e1 x hx').imp .inl id)⟩, hx.mono e1⟩
theorem Two.read (h : Two w2 w' b1 g1 b2 g2 F1 F2 s1 s2) (i : Nat) (hi : i < s1.n) :
    Calls Try.prog 25 #[.pointer (some ⟨g1, 0, none⟩), .int .i64 (i : Int)] w' fun e w'' => ∃ v, e = .returned (.tuple #[v, .int .i64 0]) ∧ Kd.R (Kd.int .u8) 5 w'' w'.heap.size (fun _ => True) v (s1.cur i) ∧ Two w2 w'' b1 g1 b2 g2 F1 F2 s1.reads s2 ∧ Chg (fun x => F1 x ∨ w2.heap.size ≤ x) w' w'' := by
  obtain ⟨Fd, Fe, h1, h2, hd, e1, e2, hch⟩ := h
  refine (read_at g1 i w' b1 Fd s1 h1 hi).mono ?_
  rintro e w'' ⟨v, he, hr, hdk, hx⟩
  exact ⟨v, he, hr, ⟨Fd, Fe, hdk, h2.chg hx (fun x hx' hF => hd x hF hx'), hd, e1, e2, hch.trans hx (fun x hx' => (e1 x hx').imp .inl id)⟩, hx.mono e1⟩
theorem Two.image (h : Two w2 w' b1 g1 b2 g2 F1 F2 s1 s2) :
    Calls Try.prog 26 #[.pointer (some ⟨g1, 0, none⟩)] w' fun e w'' => ∃ go c, e = .returned (.slice (some ⟨go, 0, none⟩) s1.n c) ∧ Kd.S KB 28 w'' w'.heap.size (fun _ => True) (.slice (some ⟨go, 0, none⟩) s1.n c) s1.L ∧ Below w'.heap.size w' w'' := by
  obtain ⟨Fd, Fe, h1, h2, hd, e1, e2, hch⟩ := h
  exact image_at g1 w' b1 Fd s1 h1
end
end Go.Proofs.Ytddnhcnkjcdfgaa.M

namespace Go.Proofs.Ytddnhcnkjcdfgaa.P
open Go.RowKit Go.Proofs.YtddnhcnkjcdfgaaW.PrintWords Go.Proofs.YtddnhcnkjcdfgaaW.PrintLast Go.Proofs.YtddnhcnkjcdfgaaW.PrintMore
attribute [local go_sem] max2_int min2_int max_two min_two max_three min_three max_four min_four   -- for this text's walks alone
set_option linter.unusedVariables false
set_option linter.unusedSimpArgs false
end Go.Proofs.Ytddnhcnkjcdfgaa.P

namespace Go.Proofs.Ytddnhcnkjcdfgaa.M
open Go.RowKit Go.Maps Go.Proofs.YtddnhcnkjcdfgaaW.PrintWords Go.Proofs.YtddnhcnkjcdfgaaW.PrintLast Go.Proofs.YtddnhcnkjcdfgaaW.PrintMore
open Go.Proofs.Ytddnhcnkjcdfgaa.P
attribute [local go_sem] max2_int min2_int max_two min_two max_three min_three max_four min_four
set_option linter.unusedVariables false
set_option linter.unusedSimpArgs false
end Go.Proofs.Ytddnhcnkjcdfgaa.M

namespace Go.Proofs.Ytddnhcnkjcdfgaa.Bulk
open Go.ChangeShapes Go.WideShapes Go.Proofs.YtddnhcnkjcdfgaaW.PrintWords
theorem one_le {H : Type} (d : DataW H) : 1 ≤ Rows.uptoBulk d := by
  cases d with
  | lit l => cases l <;> simp [Rows.uptoBulk]
  | nil => simp [Rows.uptoBulk]
  | ptr d => simp [Rows.uptoBulk]
  | slice elems spare => simp [Rows.uptoBulk]
  | agg parts => simp [Rows.uptoBulk]
  | iface t d => simp [Rows.uptoBulk]
  | map entries => simp [Rows.uptoBulk]
  | held h => simp [Rows.uptoBulk]
theorem part_le {H : Type} {d : DataW H} {l : List (DataW H)} (h : d ∈ l) : Rows.uptoBulk d ≤ Rows.uptoBulkAll l := by
  induction l with
  | nil => cases h
  | cons x r ih =>
    simp only [Rows.uptoBulkAll]
    cases List.mem_cons.1 h with
    | inl e => subst e; omega
    | inr e => have := ih e; omega
theorem length_le {H : Type} (l : List (DataW H)) : l.length ≤ Rows.uptoBulkAll l := by
  induction l with
  | nil => simp [Rows.uptoBulkAll]
  | cons x r ih => have := one_le x; simp only [Rows.uptoBulkAll, List.length_cons]; omega
theorem bound {H : Type} {l : List (DataW H)} (hk : Rows.uptoSmall H l = true) : Rows.uptoBulkAll l ≤ 1048576 := of_decide_eq_true hk
end Go.Proofs.Ytddnhcnkjcdfgaa.Bulk

namespace Go.Proofs.Ytddnhcnkjcdfgaa.Bulk
open Go.ChangeShapes Go.WideShapes Go.Proofs.YtddnhcnkjcdfgaaW.PrintWords Go.Proofs.Ytddnhcnkjcdfgaa.M
set_option linter.unusedVariables false
section
variable {H : Type} (enc : TypeId × Value → H) (P : Program) (W : World) (base : Nat) (spare : Nat → Bool) (held : Bool)
def Opens {α : Type} (t : TypeId) (d : Kd α) (Ok : α → Nat → Prop) : Prop :=
  ∀ (fuel : Nat) (cs : List Value) (x : DataW H × List MemPlace), DataW.trod enc P W base spare held fuel t cs = some x → ∃ y, d.K W y cs ∧ Ok y (Rows.uptoBulk x.1)
variable {enc P W base spare held}
theorem opens_int {t : TypeId} {k : IntKind} (ht : P.underlying t = some (.int k)) : Opens enc P W base spare held t (Kd.int k) (fun y _ => (Lit.int k y).wf = true) := by
  intro fuel cs x h
  obtain ⟨n, rfl, rfl, hw⟩ := DataW.trod_int ht h
  exact ⟨n, rfl, hw⟩
theorem cells_of {a : Addr} {n : Nat} {cs : List Value} (h : W.cells? base a n = some cs) : cs.length = n ∧ ∀ i u, cs[i]? = some u → W.cell? (a.add i) = some u := by
  obtain ⟨_, hl, hc⟩ := World.cells?_some h
  refine ⟨hl, fun i u hu => ?_⟩
  have hi : i < cs.length := (List.getElem?_eq_some_iff.1 hu).1
  rw [hc i (by omega), hu]
theorem opens_slice {α : Type} {t e q : TypeId} {d : Kd α} {Ok : α → Nat → Prop} (ht : P.underlying t = some (.slice e)) (hc : P.cellsOf e = d.sz)
    (hm : ∀ y m n, m ≤ n → Ok y m → Ok y n) (he : Opens enc P W base spare held e d Ok) :
    Opens enc P W base spare held t (Kd.slice q d) (fun ys n => ys.length ≤ n ∧ ∀ y ∈ ys, Ok y n) := by
  intro fuel cs x h
  rcases DataW.trod_slice ht h with ⟨rfl, rfl⟩ | ⟨a, len, cap, elems, rest, n, _, rfl, rfl, hb, hl, hmax, hlen, hel, _, _⟩
  · refine ⟨[], ⟨none, 0, rfl, Nat.le_refl _, rfl, Nat.zero_le _, fun h => absurd h (Nat.lt_irrefl _)⟩, by simp, fun y hy => by cases hy⟩
  · have each : ∀ i (hi : i < elems.length), ∃ y, (∃ c, c.length = d.sz ∧ d.K W y c ∧ ∀ j u, c[j]? = some u → W.cell? (a.add (i * d.sz + j)) = some u) ∧ Ok y (Rows.uptoBulk (elems[i]).1) := by
      intro i hi
      have h1 := hel i (by omega)
      rw [List.getElem?_eq_getElem hi, Option.bind_eq_some_iff] at h1
      obtain ⟨c, h2, h3⟩ := h1
      obtain ⟨y, hk, hok⟩ := he _ _ _ h3
      obtain ⟨hcl, hcell⟩ := cells_of h2
      rw [hc] at hcl hcell
      refine ⟨y, ⟨c, hcl, hk, fun j u hu => ?_⟩, hok⟩
      have := hcell j u hu
      rwa [Addr.add_add] at this
    have all : ∀ m, m ≤ elems.length → ∃ ys : List α, ys.length = m ∧ ∀ i y, ys[i]? = some y → (∃ c, c.length = d.sz ∧ d.K W y c ∧ ∀ j u, c[j]? = some u → W.cell? (a.add (i * d.sz + j)) = some u) ∧ ∃ hi : i < elems.length, Ok y (Rows.uptoBulk (elems[i]).1) := by
      intro m
      induction m with
      | zero => intro _; exact ⟨[], rfl, fun i y hy => by simp at hy⟩
      | succ m ih =>
        intro hm1
        obtain ⟨ys, hys, hall⟩ := ih (by omega)
        obtain ⟨y, hy, hoky⟩ := each m (by omega)
        refine ⟨ys ++ [y], by simp [hys], fun i z hz => ?_⟩
        by_cases hi : i < m
        · rw [List.getElem?_append_left (by omega)] at hz
          exact hall i z hz
        · have hi2 : i < (ys ++ [y]).length := (List.getElem?_eq_some_iff.1 hz).1
          simp [hys] at hi2
          obtain rfl : i = m := by omega
          rw [List.getElem?_append_right (by omega), hys] at hz
          simp at hz
          subst hz
          exact ⟨hy, by omega, hoky⟩
    obtain ⟨ys, hys, hall⟩ := all elems.length (Nat.le_refl _)
    have hbulk : Rows.uptoBulkAll (elems.map (·.1)) ≤ Rows.uptoBulk (DataW.slice (elems.map (·.1)) (rest.map (·.1))) := by simp only [Rows.uptoBulk]; omega
    refine ⟨ys, ⟨some a, cap, by rw [hys, hlen], by omega, rfl, ?_, fun _ => ⟨a, rfl, fun j p hp => (hall j p hp).1⟩⟩, ?_, fun y hy => ?_⟩
    · rw [hys, hlen]
      have : (maxLen : Nat) ≤ 9223372036854775807 := by decide
      omega
    · have := length_le (elems.map (·.1))
      rw [List.length_map] at this
      rw [hys]
      exact Nat.le_trans this hbulk
    · obtain ⟨i, hi⟩ := List.getElem?_of_mem hy
      obtain ⟨_, hlt, hok⟩ := hall i y hi
      refine hm y _ _ ?_ hok
      exact Nat.le_trans (part_le (List.mem_map.2 ⟨elems[i], List.getElem_mem hlt, rfl⟩)) hbulk
theorem arg_full {α : Type} {t q : TypeId} {d : Kd α} {Ok : List α → Nat → Prop} {a : Option Addr} {len cap : Nat} {dd : DataW H} {ps : List MemPlace}
    (hs : Opens enc P W base spare held t (Kd.slice q d) Ok) (h : DataW.Trod enc P W base spare held t (.slice a len cap) dd ps) : ∃ l, len = l.length ∧ l.length ≤ cap ∧ Kd.C d W a l.length l ∧ l.length ≤ 9223372036854775807 ∧ ∃ n, Ok l n := by
  obtain ⟨fuel, hf⟩ := h
  obtain ⟨l, ⟨A, c, he, hl, hC⟩, hok⟩ := hs _ _ _ hf
  simp [Value.cells] at he
  obtain ⟨rfl, rfl, rfl⟩ := he
  exact ⟨l, rfl, hl, hC, hC.2.1, _, hok⟩
end
section
variable {H : Type} {enc : TypeId × Value → H} {W : World} {base : Nat} {spare : Nat → Bool} {held : Bool}
theorem opens_28 : Opens enc Try.prog W base spare held 28 (Kd.slice 5 (Kd.int .u8)) (fun ys n => ys.length ≤ n ∧ ∀ y ∈ ys, (Lit.int .u8 y).wf = true) :=
  opens_slice Try.underlying28 (by kernel_rfl) (fun _ _ _ _ h => h) (opens_int Try.underlying5)
end
end Go.Proofs.Ytddnhcnkjcdfgaa.Bulk
namespace Go.Proofs.Ytddnhcnkjcdfgaa.M
open Go.RowKit Go.Proofs.YtddnhcnkjcdfgaaW.PrintWords Go.Proofs.YtddnhcnkjcdfgaaW.PrintLast Go.Proofs.YtddnhcnkjcdfgaaW.PrintMore
open Go.Proofs.Ytddnhcnkjcdfgaa.P
set_option linter.unusedVariables false
end Go.Proofs.Ytddnhcnkjcdfgaa.M

namespace Go.Proofs.Ytddnhcnkjcdfgaa.M
open Go.RowKit Go.Maps Go.Proofs.YtddnhcnkjcdfgaaW.PrintWords Go.Proofs.YtddnhcnkjcdfgaaW.PrintLast Go.Proofs.YtddnhcnkjcdfgaaW.PrintMore
open Go.Proofs.Ytddnhcnkjcdfgaa.P
set_option linter.unusedVariables false
theorem crashL_len (s : DS) (fs : List Int) : ∀ j, (crashL s fs j).length = s.L.length
  | 0 => rfl
  | j + 1 => by
    unfold crashL
    split
    · rw [List.length_set]; exact crashL_len s fs j
    · exact crashL_len s fs j
theorem crashL_is (s : DS) (fs : List Int) (i : Nat) : ∀ j, j ≤ s.keysN.length → (crashL s fs j).getD i [] = s.L.getD i [] ∨ (crashL s fs j).getD i [] ∈ s.W i
  | 0, _ => .inl rfl
  | j + 1, hj => by
    have ih := crashL_is s fs i j (by omega)
    obtain ⟨hk1, hk2, _⟩ := key_at s j (by omega)
    have hpos : 0 < (s.W (s.keysN.getD j 0)).length := List.length_pos_iff.2 hk2
    unfold crashL
    split
    · rename_i hf
      by_cases e : s.keysN.getD j 0 = i
      · rw [e] at hpos ⊢
        by_cases hb : i < (crashL s fs j).length
        · right
          rw [List.getD_eq_getElem?_getD, List.getElem?_set_self hb]
          show (s.W i).getD _ [] ∈ s.W i
          rw [List.getD_eq_getElem?_getD, List.getElem?_eq_getElem (by omega)]
          exact List.getElem_mem _
        · rw [List.set_eq_of_length_le (by omega)]
          exact ih
      · rw [List.getD_eq_getElem?_getD, List.getElem?_set_ne e, ← List.getD_eq_getElem?_getD]
        exact ih
    · exact ih
end Go.Proofs.Ytddnhcnkjcdfgaa.M

namespace Go.Proofs.Ytddnhcnkjcdfgaa.M
open Go.RowKit Go.Maps Go.Proofs.YtddnhcnkjcdfgaaW.PrintWords Go.Proofs.YtddnhcnkjcdfgaaW.PrintLast Go.Proofs.YtddnhcnkjcdfgaaW.PrintMore
open Go.Proofs.Ytddnhcnkjcdfgaa.P
set_option linter.unusedVariables false
set_option linter.unusedSimpArgs false
section
variable {w0 w : World} {L : List Th}
theorem Sep.push_alloc (h : Sep w0 w L) (cs : Array Value) (e : Nat) : Sep w0 (w.alloc (.cells cs e)) (cellsT w.heap.size cs e :: L) :=
  h.push (t := cellsT w.heap.size cs e) (below_alloc (Below.refl _ _) _) (F := fun b => b = w.heap.size) ⟨blk_new w _, fun b => Iff.rfl⟩ (fun b hb => Nat.le_of_eq hb.symm)
theorem Sep.own_slice {α : Type} {d : Kd α} {e : Nat} {v : Value} {xs : List α} (h : Sep w0 w (ownT d e v xs :: L)) : ∃ A c, v = .slice A xs.length c := by
  obtain ⟨_, _, hr⟩ := h.own
  exact Kd.R_slice hr
theorem Sep.own_C {α : Type} {d : Kd α} {e : Nat} {A : Option Addr} {n c : Nat} {xs : List α} (h : Sep w0 w (ownT d e (.slice A n c) xs :: L)) : d.C w A xs.length xs ∧ xs.length ≤ c := by
  obtain ⟨_, _, hr⟩ := h.own
  obtain ⟨h1, h2, h3⟩ := Kd.R_reads' hr
  exact ⟨h3, h1 ▸ h2⟩
end
end Go.Proofs.Ytddnhcnkjcdfgaa.M

namespace Go.Proofs.Ytddnhcnkjcdfgaa.M
open Go.RowKit Go.Maps Go.Proofs.YtddnhcnkjcdfgaaW.PrintWords Go.Proofs.YtddnhcnkjcdfgaaW.PrintLast Go.Proofs.YtddnhcnkjcdfgaaW.PrintMore
set_option linter.unusedVariables false
set_option linter.unusedSimpArgs false
def kilnref3_Copy.f (l : List Int) : Option (List Int) := if l.length ≤ 140737488355328 then some l else none
set_option maxHeartbeats 1000000 in
set_option maxRecDepth 100000 in
theorem kilnref3_Copy.calls (A0 : Option Addr) (c0 : Nat) (l0 : List Int) (r : List Int) (w : World) (hr0 : Kd.C (Kd.int .u8) w A0 l0.length l0) (hc0 : l0.length ≤ c0) (h : kilnref3_Copy.f l0 = some r) :
    Calls Try.prog 55 #[.slice A0 l0.length c0] w fun e w' => ∃ v0_ : Value, e = .returned (v0_) ∧ Kd.R (Kd.int .u8) 5 w' w.heap.size (fun _ => True) v0_ r ∧ Below w.heap.size w w' := by
  unfold kilnref3_Copy.f at h
  split at h
  · rename_i hl
    obtain rfl := Option.some.inj h
    obtain ⟨n, hn⟩ : ∃ n, n = l0.length := ⟨_, rfl⟩
    rw [← hn] at hr0 hl ⊢
    have HR := Aside0.mk hr0
    have HN := Aside0.mk hn
    clear hr0 hc0 h hn
    go_enter Try.func55, Try.ntmps55
    go_wp2_with (first
      | (at_make; refine Kd.R_make (Kd.int .u8) (w0 := w) w.heap.size 5 rfl (N := 6) rfl 28 (.tmp 5) (.tmp 5) rfl (n : Int) rfl rfl Try.underlying28 (.int .u8 0) 1 info5 rfl (by decide) (by decide) 0 (ok := fun _ => True) (okp := fun _ => True) rfl (fun _ h => h) trivial (by omega) (by omega) (Below.refl _ _) (Nat.le_refl _) ?_; intro v6 w6 hr hb hg hat; rw [Int.toNat_natCast] at hr; obtain ⟨A6, c6, e6⟩ := Kd.R_slice hr; rw [List.length_replicate] at e6; subst e6; have H6 := Aside0.mk hr; have HB6 := Aside0.mk hb; clear hr hb hg hat)
      | ((with_reducible refine gate_builtin (b := .copy) (xs := #[.tmp 7, .tmp 8]) rfl ?_); refine Kd.R_copy (0 : Int) (w0 := w) w.heap.size rfl (.tmp 7) (.tmp 8) 28 28 5 rfl Try.underlying28 (by kernel_rfl) (.slice A6 n c6) (List.replicate n 0) l0 A0 n c0 (fun _ => True) rfl rfl H6.out (Kd.C_below HR.out HB6.out) HB6.out (below_size HB6.out) ?_; intro w9 hr hb hg; have H9 := Aside0.mk hr; have HB9 := Aside0.mk hb; clear hr hb hg))
    go_ret
    have h9 := H9.out
    rw [List.length_replicate, Nat.min_self, List.take_of_length_le (by rw [HN.out]; exact Nat.le_refl _), List.drop_of_length_le (by rw [List.length_replicate]; exact Nat.le_refl _), List.append_nil] at h9
    exact ⟨_, rfl, h9, HB9.out⟩
  · cases h
end Go.Proofs.Ytddnhcnkjcdfgaa.M

namespace Go.Proofs.Ytddnhcnkjcdfgaa.R
open Go.Proofs.Ytddnhcnkjcdfgaa.M Go.Proofs.Ytddnhcnkjcdfgaa.P
open Go.RowKit Go.Proofs.YtddnhcnkjcdfgaaW.PrintWords Go.Proofs.YtddnhcnkjcdfgaaW.PrintLast Go.Proofs.YtddnhcnkjcdfgaaW.PrintMore
attribute [local go_sem] max2_int min2_int max_two min_two max_three min_three max_four min_four   -- for this text's walks alone
set_option linter.unusedVariables false
set_option linter.unusedSimpArgs false
def errW : Option Int → Value
  | none => .nilIface
  | some c => .iface 0 (.int .i64 c)
theorem errW_none : errW none = .nilIface := rfl
theorem errW_some (c : Int) : errW (some c) = .iface 0 (.int .i64 c) := rfl
theorem info3 : (Try.prog.info? 3).map (fun i => (i.zero, i.size, i.bytes)) = some (some (.int .i64 0), 1, 8) := by kernel_rfl
theorem info5 : (Try.prog.info? 5).map (fun i => (i.zero, i.size, i.bytes)) = some (some (.int .u8 0), 1, 1) := by kernel_rfl
theorem info28 : (Try.prog.info? 28).map (fun i => (i.zero, i.size, i.bytes)) = some (some (.slice none 0 0), 1, 24) := by kernel_rfl
theorem info106 : (Try.prog.info? 106).map (fun i => (i.zero, i.size, i.bytes)) = some (some (.agg #[(.int .i64 0), (.slice none 0 0)]), 2, 32) := by kernel_rfl
def rd_L2 (xs : List (List Int)) (i : Int) : (List Int) := xs.getD i.toNat ([] : List Int)
theorem at_L2 {w : World} {A : Option Addr} {n : Nat} {xs : List (List Int)} (h : Kd.C (Kd.slice 5 (Kd.int .u8)) w A n xs) (i : Int) (h0 : 0 ≤ i) (h1 : i < n) : ∃ ad A0 c0, A = some ad ∧ w.cell? (ad.add i.toNat) = some (.slice A0 (rd_L2 xs i).length c0) ∧ (rd_L2 xs i).length ≤ c0 ∧ (Kd.int .u8).C w A0 (rd_L2 xs i).length (rd_L2 xs i) := by
  obtain ⟨ad, c, e, _, hK, hc0⟩ := Kd.C_get h ([] : List Int) i h0 h1
  have hc : ∀ j u, c[j]? = some u → w.cell? (ad.add (i.toNat * 1 + j)) = some u := hc0
  obtain ⟨A0, c0, rfl, l0, g0⟩ := hK
  exact ⟨ad, A0, c0, e, by have hq := hc 0 _ rfl; rwa [Nat.mul_one, Nat.add_zero] at hq, l0, g0⟩
structure S106 where
  f0 : Int
  f1 : (List Int)
def z106 : S106 := ⟨(0 : Int), ([] : List Int)⟩
def k106 : Kd S106 := Kd.iso (Kd.pair (Kd.int .i64) (Kd.slice 5 (Kd.int .u8))) (fun x : S106 => (x.f0, x.f1))
theorem k106_heap : Kd.Heap k106 := Kd.heap_iso _ (Kd.heap_pair (Kd.heap_int .i64) (Kd.heap_slice 5 (Kd.heap_int .u8)))
theorem k106_open {w : World} {x : S106} {cs : List Value} (h : k106.K w x cs) : ∃ A1 c1, cs = [.int .i64 x.f0, .slice A1 x.f1.length c1] ∧ x.f1.length ≤ c1 ∧ (Kd.int .u8).C w A1 x.f1.length x.f1 := by
  obtain ⟨_, _, rfl, rfl, ⟨A1, c1, rfl, l1, g1⟩⟩ := h
  exact ⟨A1, c1, rfl, l1, g1⟩
theorem k106_mk (w : World) (x : S106) {A1 : Option Addr} {c1 : Nat} (l1 : x.f1.length ≤ c1) (g1 : (Kd.int .u8).C w A1 x.f1.length x.f1) : k106.K w x [.int .i64 x.f0, .slice A1 x.f1.length c1] := ⟨[.int .i64 x.f0], [.slice A1 x.f1.length c1], rfl, rfl, ⟨A1, c1, rfl, l1, g1⟩⟩
theorem k106_mkM (w : World) (base : Nat) (ok : Nat → Prop) (x : S106) {v1 : Value} (g1 : (Kd.int .u8).R 5 w base ok v1 x.f1) : k106.M w base ok x [.int .i64 x.f0, v1] := ⟨[.int .i64 x.f0], [v1], rfl, rfl, ⟨v1, rfl, g1⟩⟩
theorem k106_openF {W : World} {ok : Nat → Prop} {x : S106} {cs : List Value} (h : Kd.FK k106 W ok x cs) : ∃ A1 c1, cs = [.int .i64 x.f0, .slice A1 x.f1.length c1] ∧ x.f1.length ≤ c1 ∧ Kd.F (Kd.int .u8) W ok A1 x.f1.length x.f1 := by
  obtain ⟨A1, c1, rfl, l1, _⟩ := k106_open (Kd.FK_now h)
  exact ⟨A1, c1, rfl, l1, (fun W' hW => by obtain ⟨A1_, c1_, he, l1_, g1_⟩ := k106_open (h W' hW); injection (Option.some.inj (show some (Value.slice A1 x.f1.length c1) = some (Value.slice A1_ x.f1.length c1_) from congrArg (fun l => l[1]?) he)) with ha_ _ _; rw [ha_]; exact g1_)⟩
theorem k106_mkF (W : World) (ok : Nat → Prop) (x : S106) {A1 : Option Addr} {c1 : Nat} (l1 : x.f1.length ≤ c1) (g1 : Kd.F (Kd.int .u8) W ok A1 x.f1.length x.f1) : Kd.FK k106 W ok x [.int .i64 x.f0, .slice A1 x.f1.length c1] := fun W2 hW => k106_mk W2 x l1 (g1 W2 hW)
def rd_T106 (xs : List S106) (i : Int) : S106 := xs.getD i.toNat z106
theorem at_T106 {w : World} {A : Option Addr} {n : Nat} {xs : List S106} (h : Kd.C k106 w A n xs) (i : Int) (h0 : 0 ≤ i) (h1 : i < n) : ∃ ad A1 c1, A = some ad ∧ w.cell? (ad.add (i.toNat * 2)) = some (.int .i64 (rd_T106 xs i).f0) ∧ w.cell? ⟨(ad.add (i.toNat * 2)).block, (ad.add (i.toNat * 2)).off + 1, none⟩ = some (.slice A1 (rd_T106 xs i).f1.length c1) ∧ (rd_T106 xs i).f1.length ≤ c1 ∧ (Kd.int .u8).C w A1 (rd_T106 xs i).f1.length (rd_T106 xs i).f1 := by
  obtain ⟨ad, c, e, _, hK, hc0⟩ := Kd.C_get h z106 i h0 h1
  have hc : ∀ j u, c[j]? = some u → w.cell? (ad.add (i.toNat * 2 + j)) = some u := hc0
  obtain ⟨A1, c1, rfl, l1, g1⟩ := k106_open hK
  exact ⟨ad, A1, c1, e, hc 0 _ rfl, by rw [← add_field _ _ 1 (by omega)]; exact hc 1 _ rfl, l1, g1⟩
end Go.Proofs.Ytddnhcnkjcdfgaa.R

namespace Go.Proofs.Ytddnhcnkjcdfgaa.R
open Go.Proofs.Ytddnhcnkjcdfgaa.M Go.Proofs.Ytddnhcnkjcdfgaa.P
open Go.RowKit Go.Proofs.YtddnhcnkjcdfgaaW.PrintWords Go.Proofs.YtddnhcnkjcdfgaaW.PrintLast Go.Proofs.YtddnhcnkjcdfgaaW.PrintMore
attribute [local go_sem] max2_int min2_int max_two min_two max_three min_three max_four min_four   -- for this text's walks alone
set_option linter.unusedVariables false
set_option linter.unusedSimpArgs false
def kilnref3_SameImage.l0 : Nat → List (List Int) → List (List Int) → Int → Option (Bool)
  | 0, _, _, _ => none
  | k + 1, x0, x1, x5 => if x5 < (x0.length : Int) then (if 0 ≤ x5 then (if x5 < (x1.length : Int) then (if (strOfNums (rd_L2 x0 x5)).toList = (strOfNums (rd_L2 x1 x5)).toList then (kilnref3_SameImage.l0 k x0 x1 (wrap64 (x5 + 1))) else (some false)) else (none)) else (none)) else (some true)
def kilnref3_SameImage.f (k : Nat) (l0 : List (List Int)) (l1 : List (List Int)) : Option (Bool) := if (l0.length : Int) = (l1.length : Int) then (kilnref3_SameImage.l0 k l0 l1 0) else (some false)
theorem kilnref3_SameImage.mono_l : ∀ k, (∀ y0 y1 y2, LeO (kilnref3_SameImage.l0 k y0 y1 y2) (kilnref3_SameImage.l0 (k + 1) y0 y1 y2))
  | 0 => fun _ _ _ r h => by simp [kilnref3_SameImage.l0] at h
  | k + 1 => by
    have ih0 := kilnref3_SameImage.mono_l k
    · intro y0 y1 y2
      unfold kilnref3_SameImage.l0
      repeat' first
      | (with_reducible exact ih0 _ _ _)
      | (with_reducible exact LeO.refl _)
      | (with_reducible exact LeO.none _)
      | (with_reducible refine LeO.ite ?_ ?_)
      | (with_reducible refine LeO.bind ?_ (fun _ => ?_))
      | exact ih0 _ _ _
      | exact LeO.none _
      | refine LeO.ite ?_ ?_
      | refine LeO.bind ?_ (fun _ => ?_)
theorem kilnref3_SameImage.mono : ∀ a0 a1 k, LeO (kilnref3_SameImage.f k a0 a1) (kilnref3_SameImage.f (k + 1) a0 a1) := by
  intro a0 a1 k
  have ih0 := kilnref3_SameImage.mono_l k
  unfold kilnref3_SameImage.f
  repeat' first
      | (with_reducible exact ih0 _ _ _)
      | (with_reducible exact LeO.refl _)
      | (with_reducible exact LeO.none _)
      | (with_reducible refine LeO.ite ?_ ?_)
      | (with_reducible refine LeO.bind ?_ (fun _ => ?_))
      | exact ih0 _ _ _
      | exact LeO.none _
      | refine LeO.ite ?_ ?_
      | refine LeO.bind ?_ (fun _ => ?_)
def same6_T : Bool × List (List Nat × List Nat) := (true, [([], []), ([], []), ([0, 1], [0, 1]), ([2], [2]), ([3], [3]), ([], []), ([], []), ([5, 6], [5, 6]), ([7], [7]), ([8], [8]), ([4, 9], [4, 9])])
def same6_B : List Nat := [0, 0, 3, 7, 15, 0, 0, 96, 224, 480, 1023]
theorem same6_tab : rtab .any (opsOf Try.f36 6) = same6_T := by kernel_rfl
theorem same6_bits : waitsOk same6_T.2 same6_B = true := by kernel_rfl
set_option maxHeartbeats 8000000 in
set_option maxRecDepth 100000 in
theorem kilnref3_SameImage.calls (k : Nat) (A0 : Option Addr) (c0 : Nat) (l0 : List (List Int)) (A1 : Option Addr) (c1 : Nat) (l1 : List (List Int)) (r : Bool) (w : World) (hr0 : Kd.C (Kd.slice 5 (Kd.int .u8)) w A0 l0.length l0) (hc0 : l0.length ≤ c0) (hr1 : Kd.C (Kd.slice 5 (Kd.int .u8)) w A1 l1.length l1) (hc1 : l1.length ≤ c1) (h : kilnref3_SameImage.f k l0 l1 = some r) :
    Calls Try.prog 36 #[.slice A0 l0.length c0, .slice A1 l1.length c1] w fun e w' => e = .returned (.bool r) ∧ Drawn0 w w' := by
  have HR0 := Aside0.mk hr0
  have HC0 := Aside0.mk hc0
  clear hr0 hc0
  have HR1 := Aside0.mk hr1
  have HC1 := Aside0.mk hc1
  clear hr1 hc1
  have H : (if (l0.length : Int) = (l1.length : Int) then (kilnref3_SameImage.l0 k l0 l1 0) else (some false)) = some r := h
  clear h
  by_cases c3 : (l0.length : Int) = (l1.length : Int)
  · rw [if_pos c3] at H
    have c3b0 : ((l0.length : Int) == (l1.length : Int)) = true := beq_iff_eq.mpr c3
    have c3b1 : ((l0.length : Int) != (l1.length : Int)) = false := bne_eq_false_iff_eq.mpr c3
    have c3b2 : (l0.length == l1.length) = true := by first | simpa using c3 | (simp at c3 ⊢; omega)
    clear c3
    have H' := Aside0.mk H
    clear H
    go_enter Try.func36, Try.ntmps36
    go_wp2
    repeat (go_quiet (fail); try go_wp2)
    go_loopg [5] k (fun kq v5 w' => ∃ (x5_1 : Int), v5 = .int .i64 x5_1 ∧ Aside0 (kilnref3_SameImage.l0 kq l0 l1 x5_1 = some r) ∧ Aside0 (kq ≤ k) ∧ Drawn0 w w')
    case atStart => exact ⟨(0), (by first | rfl | (simp; done) | (simp [*]; done)), H', ⟨Nat.le_refl _⟩, by repeat (first | exact Drawn0.refl _ | apply Drawn0.step)⟩
    case round =>
      clear H'
      try clear c1
      try clear p2
      try clear c3
      try clear c3b0
      try clear c3b1
      try clear c3b2
      obtain ⟨x5_1, rfl, HA, HK1, ⟨m1, rfl⟩⟩ := hrel
      cases gk with
      | zero => exact absurd HA.out (by simp [kilnref3_SameImage.l0])
      | succ k1 =>
        have H := HA.out
        clear HA
        simp only [kilnref3_SameImage.l0] at H
        by_cases c4 : x5_1 < (l0.length : Int)
        · rw [if_pos c4] at H
          have c4b0 : decide (x5_1 < (l0.length : Int)) = true := decide_eq_true c4
          clear c4
          by_cases c5 : 0 ≤ x5_1
          · rw [if_pos c5] at H
            have c5b0 : decide (0 ≤ x5_1) = true := decide_eq_true c5
            clear c5
            by_cases c6 : x5_1 < (l1.length : Int)
            · rw [if_pos c6] at H
              have c6b0 : decide (x5_1 < (l1.length : Int)) = true := decide_eq_true c6
              clear c6
              by_cases c7 : (strOfNums (rd_L2 l0 x5_1)).toList = (strOfNums (rd_L2 l1 x5_1)).toList
              · rw [if_pos c7] at H
                have c7b0 : ((strOfNums (rd_L2 l0 x5_1)).toList == (strOfNums (rd_L2 l1 x5_1)).toList) = true := beq_iff_eq.mpr c7
                have c7b1 : ((strOfNums (rd_L2 l0 x5_1)).toList != (strOfNums (rd_L2 l1 x5_1)).toList) = false := bne_eq_false_iff_eq.mpr c7
                clear c7
                have H' := Aside0.mk H
                clear H
                have p222 : 0 ≤ (x5_1 : Int) := of_decide_eq_true (by first | (with_reducible assumption) | assumption)
                have q222 : x5_1 < (l0.length : Int) := of_decide_eq_true (by first | (with_reducible assumption) | assumption)
                obtain ⟨ad222, A222_0, c222_0, e222, hx222_0, hl222_0, hi222_0⟩ := at_L2 HR0.out x5_1 p222 q222
                cases e222
                have HR222_0 := Aside0.mk hi222_0
                have HC222_0 := Aside0.mk hl222_0
                clear hi222_0 hl222_0
                replace p222 := eq_true p222
                replace q222 := eq_true q222
                have p223 : 0 ≤ (x5_1 : Int) := of_decide_eq_true (by first | (with_reducible assumption) | assumption)
                have q223 : x5_1 < (l1.length : Int) := of_decide_eq_true (by first | (with_reducible assumption) | assumption)
                obtain ⟨ad223, A223_0, c223_0, e223, hx223_0, hl223_0, hi223_0⟩ := at_L2 HR1.out x5_1 p223 q223
                cases e223
                have HR223_0 := Aside0.mk hi223_0
                have HC223_0 := Aside0.mk hl223_0
                clear hi223_0 hl223_0
                replace p223 := eq_true p223
                replace q223 := eq_true q223
                have HK := Aside0.mk (fun W (hW : Below w.heap.size w W) => (show W.cell? (ad222.add x5_1.toNat) = some (.slice A222_0 (rd_L2 l0 x5_1).length c222_0) ∧ W.cell? (ad223.add x5_1.toNat) = some (.slice A223_0 (rd_L2 l1 x5_1).length c223_0) ∧ (convert 28 9 (.slice A222_0 (rd_L2 l0 x5_1).length c222_0)).run Try.prog W = .ok (.string (strOfNums (rd_L2 l0 x5_1))) W ∧ (convert 28 9 (.slice A223_0 (rd_L2 l1 x5_1).length c223_0)).run Try.prog W = .ok (.string (strOfNums (rd_L2 l1 x5_1))) W from
                  ⟨(hW.cell (World.block_lt_of_cell? w _ hx222_0)).trans hx222_0, (hW.cell (World.block_lt_of_cell? w _ hx223_0)).trans hx223_0, Kd.C_string (P := Try.prog) (A := A222_0) (c := c222_0) Try.underlying28 Try.underlying5 Try.underlying9 (Kd.C_below HR222_0.out hW), Kd.C_string (P := Try.prog) (A := A223_0) (c := c223_0) Try.underlying28 Try.underlying5 Try.underlying9 (Kd.C_below HR223_0.out hW)⟩))
                clear hx222_0 hx223_0
                go_upto_region 6 with (fail)
                refine start_ (n := 11) (S := fun W => W.cell? (ad222.add x5_1.toNat) = some (.slice A222_0 (rd_L2 l0 x5_1).length c222_0) ∧ W.cell? (ad223.add x5_1.toNat) = some (.slice A223_0 (rd_L2 l1 x5_1).length c223_0) ∧ (convert 28 9 (.slice A222_0 (rd_L2 l0 x5_1).length c222_0)).run Try.prog W = .ok (.string (strOfNums (rd_L2 l0 x5_1))) W ∧ (convert 28 9 (.slice A223_0 (rd_L2 l1 x5_1).length c223_0)).run Try.prog W = .ok (.string (strOfNums (rd_L2 l1 x5_1))) W) (ds := []) (bb 11 0) (by kernel_rfl) rfl rfl (HK.out _ (by repeat (first | exact Below.refl _ _ | apply below_drew1 | apply pw_below_drewN))) (fun hHeld => ?_); refine with_tabW same6_tab same6_bits (fun HT_ HW_ => ?_)
                refine pure_ (i := 0) (N := (some 17)) (v := ?_) (a' := ?_) (bb 11 1) rfl rfl (any_of HT_.out (by kernel_rfl)) (fun _ _ _ h => h) (Or.inl ⟨by rfl, ?_⟩) ?_ ?_
                rotate_left
                · intro w'
                  go_simp
                  with_reducible rfl
                rotate_left
                · simp only [Act.put, List.setIfInBounds_toArray, List.set_cons_zero, List.set_cons_succ, i64_w, i32_w]
                  rfl
                refine pure_ (i := 1) (N := (some 18)) (v := ?_) (a' := ?_) (bb 11 3) rfl rfl (any_of HT_.out (by kernel_rfl)) (fun _ _ _ h => h) (Or.inl ⟨by rfl, ?_⟩) ?_ ?_
                rotate_left
                · intro w'
                  go_simp
                  with_reducible rfl
                rotate_left
                · simp only [Act.put, List.setIfInBounds_toArray, List.set_cons_zero, List.set_cons_succ, i64_w, i32_w]
                  rfl
                refine pure_ (i := 2) (N := (some 19)) (v := ?_) (a' := ?_) (bb 11 7) rfl rfl (any_of HT_.out (by kernel_rfl)) (fun _ _ _ h => h) (Or.inl ⟨by rfl, ?_⟩) ?_ ?_
                rotate_left
                · intro w'
                  go_simp
                  with_reducible rfl
                rotate_left
                · simp only [Act.put, List.setIfInBounds_toArray, List.set_cons_zero, List.set_cons_succ, i64_w, i32_w]
                  rfl
                refine take_ (i := 3) (N := (some 20)) (v := ?_) (a' := ?_) (bb 11 15) rfl rfl (take_ofW HT_.out HW_.out (by kernel_rfl)) (fun _ _ _ h => h) (Or.inl ⟨by rfl, ?_⟩) hHeld ?_ ?_
                rotate_left
                · intro w' s0
                  (try dsimp only at s0)
                  go_simp
                  with_reducible rfl
                rotate_left
                · simp only [Act.put, List.setIfInBounds_toArray, List.set_cons_zero, List.set_cons_succ, i64_w, i32_w]
                  rfl
                refine take_ (i := 4) (N := (some 21)) (v := ?_) (a' := ?_) (bb 11 31) rfl rfl (take_ofW HT_.out HW_.out (by kernel_rfl)) (fun _ _ _ h => h) (Or.inl ⟨by rfl, ?_⟩) hHeld ?_ ?_
                rotate_left
                · intro w' s0
                  (try dsimp only at s0)
                  go_simp
                  with_reducible rfl
                rotate_left
                · simp only [Act.put, List.setIfInBounds_toArray, List.set_cons_zero, List.set_cons_succ, i64_w, i32_w]
                  rfl
                refine pure_ (i := 5) (N := (some 22)) (v := ?_) (a' := ?_) (bb 11 63) rfl rfl (any_of HT_.out (by kernel_rfl)) (fun _ _ _ h => h) (Or.inl ⟨by rfl, ?_⟩) ?_ ?_
                rotate_left
                · intro w'
                  go_simp
                  with_reducible rfl
                rotate_left
                · simp only [Act.put, List.setIfInBounds_toArray, List.set_cons_zero, List.set_cons_succ, i64_w, i32_w]
                  rfl
                refine pure_ (i := 6) (N := (some 23)) (v := ?_) (a' := ?_) (bb 11 127) rfl rfl (any_of HT_.out (by kernel_rfl)) (fun _ _ _ h => h) (Or.inl ⟨by rfl, ?_⟩) ?_ ?_
                rotate_left
                · intro w'
                  go_simp
                  with_reducible rfl
                rotate_left
                · simp only [Act.put, List.setIfInBounds_toArray, List.set_cons_zero, List.set_cons_succ, i64_w, i32_w]
                  rfl
                refine pure_ (i := 7) (N := (some 24)) (v := ?_) (a' := ?_) (bb 11 255) rfl rfl (any_of HT_.out (by kernel_rfl)) (fun _ _ _ h => h) (Or.inl ⟨by rfl, ?_⟩) ?_ ?_
                rotate_left
                · intro w'
                  go_simp
                  with_reducible rfl
                rotate_left
                · simp only [Act.put, List.setIfInBounds_toArray, List.set_cons_zero, List.set_cons_succ, i64_w, i32_w]
                  rfl
                refine take_ (i := 8) (N := (some 25)) (v := ?_) (a' := ?_) (bb 11 511) rfl rfl (take_ofW HT_.out HW_.out (by kernel_rfl)) (fun _ _ _ h => h) (Or.inl ⟨by rfl, ?_⟩) hHeld ?_ ?_
                rotate_left
                · intro w' s0
                  (try dsimp only at s0)
                  go_simp
                  with_reducible rfl
                rotate_left
                · simp only [Act.put, List.setIfInBounds_toArray, List.set_cons_zero, List.set_cons_succ, i64_w, i32_w]
                  rfl
                refine take_ (i := 9) (N := (some 26)) (v := ?_) (a' := ?_) (bb 11 1023) rfl rfl (take_ofW HT_.out HW_.out (by kernel_rfl)) (fun _ _ _ h => h) (Or.inl ⟨by rfl, ?_⟩) hHeld ?_ ?_
                rotate_left
                · intro w' s0
                  (try dsimp only at s0)
                  go_simp
                  with_reducible rfl
                rotate_left
                · simp only [Act.put, List.setIfInBounds_toArray, List.set_cons_zero, List.set_cons_succ, i64_w, i32_w]
                  rfl
                refine pure_ (i := 10) (N := (some 27)) (v := ?_) (a' := ?_) (bb 11 2047) rfl rfl (any_of HT_.out (by kernel_rfl)) (fun _ _ _ h => h) (Or.inl ⟨by rfl, ?_⟩) ?_ ?_
                rotate_left
                · intro w'
                  go_simp
                  with_reducible rfl
                rotate_left
                · simp only [Act.put, List.setIfInBounds_toArray, List.set_cons_zero, List.set_cons_succ, i64_w, i32_w]
                  rfl
                refine done_ (done_of HT_.out (by kernel_rfl)) ?_
                clear hHeld HK
                go_wp2
                go_roundg k1
                case measure => have := HK1.out; omega
                case rel => exact ⟨(wrap64 (x5_1 + 1)), (by first | rfl | (simp; done) | (simp [*]; done)), H', ⟨by have := HK1.out; omega⟩, by repeat (first | exact Drawn0.refl _ | apply Drawn0.step)⟩
              · rw [if_neg c7] at H
                have c7b0 : ((strOfNums (rd_L2 l0 x5_1)).toList == (strOfNums (rd_L2 l1 x5_1)).toList) = false := beq_eq_false_iff_ne.mpr c7
                have c7b1 : ((strOfNums (rd_L2 l0 x5_1)).toList != (strOfNums (rd_L2 l1 x5_1)).toList) = true := bne_iff_ne.mpr c7
                obtain rfl := Option.some.inj H
                have p222 : 0 ≤ (x5_1 : Int) := of_decide_eq_true (by first | (with_reducible assumption) | assumption)
                have q222 : x5_1 < (l0.length : Int) := of_decide_eq_true (by first | (with_reducible assumption) | assumption)
                obtain ⟨ad222, A222_0, c222_0, e222, hx222_0, hl222_0, hi222_0⟩ := at_L2 HR0.out x5_1 p222 q222
                cases e222
                have HR222_0 := Aside0.mk hi222_0
                have HC222_0 := Aside0.mk hl222_0
                clear hi222_0 hl222_0
                replace p222 := eq_true p222
                replace q222 := eq_true q222
                have p223 : 0 ≤ (x5_1 : Int) := of_decide_eq_true (by first | (with_reducible assumption) | assumption)
                have q223 : x5_1 < (l1.length : Int) := of_decide_eq_true (by first | (with_reducible assumption) | assumption)
                obtain ⟨ad223, A223_0, c223_0, e223, hx223_0, hl223_0, hi223_0⟩ := at_L2 HR1.out x5_1 p223 q223
                cases e223
                have HR223_0 := Aside0.mk hi223_0
                have HC223_0 := Aside0.mk hl223_0
                clear hi223_0 hl223_0
                replace p223 := eq_true p223
                replace q223 := eq_true q223
                have HK := Aside0.mk (fun W (hW : Below w.heap.size w W) => (show W.cell? (ad222.add x5_1.toNat) = some (.slice A222_0 (rd_L2 l0 x5_1).length c222_0) ∧ W.cell? (ad223.add x5_1.toNat) = some (.slice A223_0 (rd_L2 l1 x5_1).length c223_0) ∧ (convert 28 9 (.slice A222_0 (rd_L2 l0 x5_1).length c222_0)).run Try.prog W = .ok (.string (strOfNums (rd_L2 l0 x5_1))) W ∧ (convert 28 9 (.slice A223_0 (rd_L2 l1 x5_1).length c223_0)).run Try.prog W = .ok (.string (strOfNums (rd_L2 l1 x5_1))) W from
                  ⟨(hW.cell (World.block_lt_of_cell? w _ hx222_0)).trans hx222_0, (hW.cell (World.block_lt_of_cell? w _ hx223_0)).trans hx223_0, Kd.C_string (P := Try.prog) (A := A222_0) (c := c222_0) Try.underlying28 Try.underlying5 Try.underlying9 (Kd.C_below HR222_0.out hW), Kd.C_string (P := Try.prog) (A := A223_0) (c := c223_0) Try.underlying28 Try.underlying5 Try.underlying9 (Kd.C_below HR223_0.out hW)⟩))
                clear hx222_0 hx223_0
                go_upto_region 6 with (fail)
                refine start_ (n := 11) (S := fun W => W.cell? (ad222.add x5_1.toNat) = some (.slice A222_0 (rd_L2 l0 x5_1).length c222_0) ∧ W.cell? (ad223.add x5_1.toNat) = some (.slice A223_0 (rd_L2 l1 x5_1).length c223_0) ∧ (convert 28 9 (.slice A222_0 (rd_L2 l0 x5_1).length c222_0)).run Try.prog W = .ok (.string (strOfNums (rd_L2 l0 x5_1))) W ∧ (convert 28 9 (.slice A223_0 (rd_L2 l1 x5_1).length c223_0)).run Try.prog W = .ok (.string (strOfNums (rd_L2 l1 x5_1))) W) (ds := []) (bb 11 0) (by kernel_rfl) rfl rfl (HK.out _ (by repeat (first | exact Below.refl _ _ | apply below_drew1 | apply pw_below_drewN))) (fun hHeld => ?_); refine with_tabW same6_tab same6_bits (fun HT_ HW_ => ?_)
                refine pure_ (i := 0) (N := (some 17)) (v := ?_) (a' := ?_) (bb 11 1) rfl rfl (any_of HT_.out (by kernel_rfl)) (fun _ _ _ h => h) (Or.inl ⟨by rfl, ?_⟩) ?_ ?_
                rotate_left
                · intro w'
                  go_simp
                  with_reducible rfl
                rotate_left
                · simp only [Act.put, List.setIfInBounds_toArray, List.set_cons_zero, List.set_cons_succ, i64_w, i32_w]
                  rfl
                refine pure_ (i := 1) (N := (some 18)) (v := ?_) (a' := ?_) (bb 11 3) rfl rfl (any_of HT_.out (by kernel_rfl)) (fun _ _ _ h => h) (Or.inl ⟨by rfl, ?_⟩) ?_ ?_
                rotate_left
                · intro w'
                  go_simp
                  with_reducible rfl
                rotate_left
                · simp only [Act.put, List.setIfInBounds_toArray, List.set_cons_zero, List.set_cons_succ, i64_w, i32_w]
                  rfl
                refine pure_ (i := 2) (N := (some 19)) (v := ?_) (a' := ?_) (bb 11 7) rfl rfl (any_of HT_.out (by kernel_rfl)) (fun _ _ _ h => h) (Or.inl ⟨by rfl, ?_⟩) ?_ ?_
                rotate_left
                · intro w'
                  go_simp
                  with_reducible rfl
                rotate_left
                · simp only [Act.put, List.setIfInBounds_toArray, List.set_cons_zero, List.set_cons_succ, i64_w, i32_w]
                  rfl
                refine take_ (i := 3) (N := (some 20)) (v := ?_) (a' := ?_) (bb 11 15) rfl rfl (take_ofW HT_.out HW_.out (by kernel_rfl)) (fun _ _ _ h => h) (Or.inl ⟨by rfl, ?_⟩) hHeld ?_ ?_
                rotate_left
                · intro w' s0
                  (try dsimp only at s0)
                  go_simp
                  with_reducible rfl
                rotate_left
                · simp only [Act.put, List.setIfInBounds_toArray, List.set_cons_zero, List.set_cons_succ, i64_w, i32_w]
                  rfl
                refine take_ (i := 4) (N := (some 21)) (v := ?_) (a' := ?_) (bb 11 31) rfl rfl (take_ofW HT_.out HW_.out (by kernel_rfl)) (fun _ _ _ h => h) (Or.inl ⟨by rfl, ?_⟩) hHeld ?_ ?_
                rotate_left
                · intro w' s0
                  (try dsimp only at s0)
                  go_simp
                  with_reducible rfl
                rotate_left
                · simp only [Act.put, List.setIfInBounds_toArray, List.set_cons_zero, List.set_cons_succ, i64_w, i32_w]
                  rfl
                refine pure_ (i := 5) (N := (some 22)) (v := ?_) (a' := ?_) (bb 11 63) rfl rfl (any_of HT_.out (by kernel_rfl)) (fun _ _ _ h => h) (Or.inl ⟨by rfl, ?_⟩) ?_ ?_
                rotate_left
                · intro w'
                  go_simp
                  with_reducible rfl
                rotate_left
                · simp only [Act.put, List.setIfInBounds_toArray, List.set_cons_zero, List.set_cons_succ, i64_w, i32_w]
                  rfl
                refine pure_ (i := 6) (N := (some 23)) (v := ?_) (a' := ?_) (bb 11 127) rfl rfl (any_of HT_.out (by kernel_rfl)) (fun _ _ _ h => h) (Or.inl ⟨by rfl, ?_⟩) ?_ ?_
                rotate_left
                · intro w'
                  go_simp
                  with_reducible rfl
                rotate_left
                · simp only [Act.put, List.setIfInBounds_toArray, List.set_cons_zero, List.set_cons_succ, i64_w, i32_w]
                  rfl
                refine pure_ (i := 7) (N := (some 24)) (v := ?_) (a' := ?_) (bb 11 255) rfl rfl (any_of HT_.out (by kernel_rfl)) (fun _ _ _ h => h) (Or.inl ⟨by rfl, ?_⟩) ?_ ?_
                rotate_left
                · intro w'
                  go_simp
                  with_reducible rfl
                rotate_left
                · simp only [Act.put, List.setIfInBounds_toArray, List.set_cons_zero, List.set_cons_succ, i64_w, i32_w]
                  rfl
                refine take_ (i := 8) (N := (some 25)) (v := ?_) (a' := ?_) (bb 11 511) rfl rfl (take_ofW HT_.out HW_.out (by kernel_rfl)) (fun _ _ _ h => h) (Or.inl ⟨by rfl, ?_⟩) hHeld ?_ ?_
                rotate_left
                · intro w' s0
                  (try dsimp only at s0)
                  go_simp
                  with_reducible rfl
                rotate_left
                · simp only [Act.put, List.setIfInBounds_toArray, List.set_cons_zero, List.set_cons_succ, i64_w, i32_w]
                  rfl
                refine take_ (i := 9) (N := (some 26)) (v := ?_) (a' := ?_) (bb 11 1023) rfl rfl (take_ofW HT_.out HW_.out (by kernel_rfl)) (fun _ _ _ h => h) (Or.inl ⟨by rfl, ?_⟩) hHeld ?_ ?_
                rotate_left
                · intro w' s0
                  (try dsimp only at s0)
                  go_simp
                  with_reducible rfl
                rotate_left
                · simp only [Act.put, List.setIfInBounds_toArray, List.set_cons_zero, List.set_cons_succ, i64_w, i32_w]
                  rfl
                refine pure_ (i := 10) (N := (some 27)) (v := ?_) (a' := ?_) (bb 11 2047) rfl rfl (any_of HT_.out (by kernel_rfl)) (fun _ _ _ h => h) (Or.inl ⟨by rfl, ?_⟩) ?_ ?_
                rotate_left
                · intro w'
                  go_simp
                  with_reducible rfl
                rotate_left
                · simp only [Act.put, List.setIfInBounds_toArray, List.set_cons_zero, List.set_cons_succ, i64_w, i32_w]
                  rfl
                refine done_ (done_of HT_.out (by kernel_rfl)) ?_
                clear hHeld HK
                go_wp2
                go_ret
                exact ⟨by first | rfl | (simp; done) | (simp [*]; done), by repeat (first | exact Drawn0.refl _ | apply Drawn0.step)⟩
            · rw [if_neg c6] at H
              exact absurd H (by simp)
          · rw [if_neg c5] at H
            exact absurd H (by simp)
        · rw [if_neg c4] at H
          have c4b0 : decide (x5_1 < (l0.length : Int)) = false := decide_eq_false c4
          clear c4
          obtain rfl := Option.some.inj H
          go_wp2
          repeat (go_quiet (fail); try go_wp2)
          go_ret
          exact ⟨by first | rfl | (simp; done) | (simp [*]; done), by repeat (first | exact Drawn0.refl _ | apply Drawn0.step)⟩
  · rw [if_neg c3] at H
    have c3b0 : ((l0.length : Int) == (l1.length : Int)) = false := beq_eq_false_iff_ne.mpr c3
    have c3b1 : ((l0.length : Int) != (l1.length : Int)) = true := bne_iff_ne.mpr c3
    have c3b2 : (l0.length == l1.length) = false := by first | simpa using c3 | (simp at c3 ⊢; omega)
    obtain rfl := Option.some.inj H
    go_enter Try.func36, Try.ntmps36
    go_wp2
    repeat (go_quiet (fail); try go_wp2)
    go_ret
    exact ⟨by first | rfl | (simp; done) | (simp [*]; done), by repeat (first | exact Drawn0.refl _ | apply Drawn0.step)⟩
end Go.Proofs.Ytddnhcnkjcdfgaa.R
