/- DiskAgainLoads. -/
import Derived.Test.YtddnhcnkjcdfgaaPaZ0
import Derived.Test.YtddnhcnkjcdfgaaProg
import Derived.Below
import Derived.Deep.Draws
import Derived.Deep.AppendLies
import Derived.Maps.AppendAt
import Derived.OwnWalk
import Derived.Laws.BytesArg
import Derived.Laws.MakeOwn
import Derived.Laws.OwnMore
import Derived.Deep.OwnRows
import Derived.Tactics
import Derived.Lib.ConvBytes
import Derived.Laws.Slices
import Derived.WalkKit
import Derived.KernelRfl
import Derived.RowKit3
import Derived.Deep.LoopGhost
import Derived.Deep.QuietTactic
import Derived.BigQuiet
import Derived.WideLaws
import Derived.Deep.DeepCutAuto
import Derived.Deep.CutBlock
import Derived.Deep.RegionHeld3
import Derived.Laws.Rows
import Derived.Lib.AppendStr
import Derived.ArgAppend
import Derived.Laws.IdiomCopy
import Derived.OrdersHeld
import Derived.Laws.BitsLemmas
import Derived.RowKit
import Derived.Laws.BitsAllLaws
import Derived.StillTailTactics
import Derived.Deep.WholeRow
import Derived.Maps.RangeWalk
import Derived.Maps.OwnOps
import Derived.WalkSpells
import Derived.Deep.MidRow
import Derived.Great.BuildSlice
import Derived.Deep.DrawnRows
import Derived.Great.Walk
import Derived.Test.YtddnhcnkjcdfgaaRows
import Derived.ChangeSlices
import Derived.SizedLaws
import Derived.ChangeArms
import Derived.ProofKit
import Derived.OpenShut
import Derived.ShutString
import Derived.ChangeOld
import Derived.Deep.DeepHandedRow
import Derived.Lib.LaidTab
namespace Go.Proofs.Ytddnhcnkjcdfgaa.M
open Go.RowKit Go.Maps Go.Proofs.YtddnhcnkjcdfgaaW.PrintWords Go.Proofs.YtddnhcnkjcdfgaaW.PrintLast Go.Proofs.YtddnhcnkjcdfgaaW.PrintMore
set_option linter.unusedVariables false
set_option linter.unusedSimpArgs false
def sec : Kd (List Int) where
  sz := 512
  E := []
  K := fun _ l cs => l.length = 512 ∧ cs = nums .u8 l
  M := fun _ _ _ l cs => l.length = 512 ∧ cs = nums .u8 l
  K_len := by
    rintro w x cs ⟨h, rfl⟩
    rw [nums_length, h]
  K_one := by
    rintro w x cs ⟨h, rfl⟩ u hu
    obtain ⟨y, _, rfl⟩ := List.mem_map.1 hu
    rfl
  K_below := fun _ h => h
  K_of_M := fun h => h
  M_mono := fun _ h => h
  M_bound := fun h => h
  M_move := fun _ h => h
  M_lower := fun _ h => h
def Rs (w : World) (base : Nat) (v : Value) (l : List (List Int)) : Prop := Kd.R sec 91 w base (fun k => v.ownBlock = some k) v l
structure Chg (F : Nat → Prop) (w w' : World) : Prop where
  os : w'.os = w.os
  tape : w'.tape = w.tape
  output : w'.output = w.output
  size : w.heap.size ≤ w'.heap.size
  block : ∀ b, b < w.heap.size → ¬ F b → w'.heap[b]? = w.heap[b]?
theorem Chg.refl (F : Nat → Prop) (w : World) : Chg F w w := ⟨rfl, rfl, rfl, Nat.le_refl _, fun _ _ _ => rfl⟩
theorem Chg.trans {F G : Nat → Prop} {a b c : World} (h : Chg F a b) (k : Chg G b c) (hg : ∀ x, G x → F x ∨ a.heap.size ≤ x) : Chg F a c :=
  ⟨k.os.trans h.os, k.tape.trans h.tape, k.output.trans h.output, Nat.le_trans h.size k.size, fun x hx hn => (k.block x (Nat.lt_of_lt_of_le hx h.size) (fun hG => by rcases hg x hG with h1 | h1; exact hn h1; omega)).trans (h.block x hx hn)⟩
theorem Chg.mono {F G : Nat → Prop} {a b : World} (h : Chg F a b) (hg : ∀ x, F x → G x) : Chg G a b := ⟨h.os, h.tape, h.output, h.size, fun x hx hn => h.block x hx (fun hF => hn (hg x hF))⟩
theorem Chg.of_below {F : Nat → Prop} {a b : World} (h : Below a.heap.size a b) : Chg F a b := ⟨h.os, h.tape, h.output, h.size, fun x hx _ => h.block x hx⟩
theorem Chg.of_grown {F : Nat → Prop} {a b : World} {row : Option Nat} (h : a.grownBy b row) (hr : ∀ k, row = some k → F k) : Chg F a b := ⟨h.os, h.tape, h.output, h.size, fun x hx hn => h.block x hx (fun e => hn (hr x e.symm))⟩
theorem Chg.below {F : Nat → Prop} {w0 a b : World} {B : Nat} (h : Below B w0 a) (k : Chg F a b) (hB : B ≤ a.heap.size) (hF : ∀ x, F x → B ≤ x) : Below B w0 b :=
  ⟨k.os.trans h.os, k.tape.trans h.tape, k.output.trans h.output, Nat.le_trans h.size k.size, fun x hx => (k.block x (Nat.lt_of_lt_of_le hx hB) (fun hf => by have := hF x hf; omega)).trans (h.block x hx)⟩
theorem Chg.setCell {F : Nat → Prop} {a b : World} (h : Chg F a b) {g : Nat} (hg : F g) (j : Nat) (v : Value) : Chg F a (b.setCell ⟨g, j, none⟩ v) :=
  ⟨h.os, h.tape, h.output, by simpa [World.setCell] using h.size, fun x hx hn => (Below.heap_setCell b ⟨g, j, none⟩ v x (fun e => hn (e ▸ hg))).trans (h.block x hx hn)⟩
theorem Rs.step {w w1 : World} {base : Nat} {v : Value} {l : List (List Int)} (h : Rs w base v l) (hm : ∀ k, v.ownBlock = some k → k < w.heap.size → w1.heap[k]? = w.heap[k]?) : Rs w1 base v l := Kd.R_step h hm
theorem Rs.chg {F : Nat → Prop} {w w1 : World} {base : Nat} {v : Value} {l : List (List Int)} (h : Rs w base v l) (hc : Chg F w w1) (hF : ∀ k, v.ownBlock = some k → ¬ F k) : Rs w1 base v l := h.step (fun k hk hlt => hc.block k hlt (hF k hk))
theorem Rs.below {w w1 : World} {base : Nat} {v : Value} {l : List (List Int)} (h : Rs w base v l) (hb : Below w.heap.size w w1) : Rs w1 base v l := Kd.R_below h hb
theorem Rs.of {w : World} {base : Nat} {ok : Nat → Prop} {v : Value} {l : List (List Int)} (h : Kd.R sec 91 w base ok v l) : Rs w base v l :=
  ⟨fun k hk => hk, h.2.imp_ (fun _ _ hp => hp)⟩
theorem Rs.typed {w : World} {base : Nat} {v : Value} {l : List (List Int)} (h : Rs w base v l) {k : Nat} (hk : v.ownBlock = some k) : base ≤ k ∧ k < w.heap.size ∧ ∃ cs, w.heap[k]? = some (.cells cs 91 (0, 0)) :=
  ⟨Kd.R_base h k hk, Kd.R_lt h k hk, Kd.R_typed h k hk⟩
theorem Rs.each {w : World} {base : Nat} {v : Value} {l : List (List Int)} (h : Rs w base v l) : ∀ x ∈ l, x.length = 512 := by
  intro x hx
  obtain ⟨i, hi⟩ := List.getElem?_of_mem hx
  obtain ⟨_, inner, _, hr⟩ := h
  exact (hr.2 i x hi).1
def asIs (v : Value) : Option (DataW Value × List MemPlace) := some (.held v, [])
structure DS where
  n : Nat
  L : List (List Int)
  W : Nat → List (List Int)
  c : Nat
  r : Int
  wr : Int
  fl : Int
def Fp (g lb mb : Nat) (f : Nat → Value) (n : Nat) (b : Nat) : Prop := b = g ∨ b = lb ∨ b = mb ∨ ∃ i, i < n ∧ (f i).ownBlock = some b
structure DkIn (w : World) (base g : Nat) (s : DS) (lb cp mb : Nat) (f : Nat → Value) (k : Nat) (D : DataW Value) : Prop where
  hd : w.heap[g]? = some (.cells #[.slice (some ⟨lb, 0, none⟩) s.n cp, .map (some mb), .int .i64 s.r, .int .i64 s.wr, .int .i64 s.fl] 89 (0, 0))
  la : Rs w base (.slice (some ⟨lb, 0, none⟩) s.n cp) s.L
  mp : w.ownsMap Try.prog 3 asIs mb k D
  kc : k ≤ s.c
  at_ : ∀ i : Nat, i < s.n → D.atKey (.int .i64 i) (.held (.slice none 0 0)) = .held (f i)
  ks : ∀ kl, Maps.has D kl = true → ∃ i : Nat, i < s.n ∧ kl = .int .i64 i ∧ s.W i ≠ []
  rows : ∀ i, i < s.n → Rs w base (f i) (s.W i)
  wl : ∀ i, i < s.n → (s.W i).length ≤ s.c
  sep : ∀ i j b, i < s.n → j < s.n → (f i).ownBlock = some b → (f j).ownBlock = some b → i = j
  sepl : ∀ i, i < s.n → (f i).ownBlock ≠ some lb
  gb : base ≤ g
  mbb : base ≤ mb
  n2 : 2 ≤ s.n
  nm : s.n ≤ 65536
def DkAt (w : World) (base g : Nat) (F : Nat → Prop) (s : DS) : Prop := ∃ lb cp mb f k D, DkIn w base g s lb cp mb f k D ∧ ∀ b, F b ↔ Fp g lb mb f s.n b
section
variable {w w' : World} {base g lb cp mb k : Nat} {F G : Nat → Prop} {s : DS} {f : Nat → Value} {D : DataW Value}
theorem DkIn.foot (h : DkIn w base g s lb cp mb f k D) (b : Nat) (hb : Fp g lb mb f s.n b) : base ≤ b ∧ b < w.heap.size := by
  rcases hb with rfl | rfl | rfl | ⟨i, hi, hb⟩
  · exact ⟨h.gb, blk_lt h.hd⟩
  · exact ⟨(h.la.typed rfl).1, (h.la.typed rfl).2.1⟩
  · exact ⟨h.mbb, h.mp.lt⟩
  · exact ⟨((h.rows i hi).typed hb).1, ((h.rows i hi).typed hb).2.1⟩
theorem DkIn.lbg (h : DkIn w base g s lb cp mb f k D) : lb ≠ g := by
  obtain ⟨cs, hc⟩ := (h.la.typed rfl).2.2
  exact blk_ne hc h.hd (by decide)
theorem DkIn.mbg (h : DkIn w base g s lb cp mb f k D) : mb ≠ g := by
  obtain ⟨es, ck, hb, _⟩ := h.mp
  intro e
  rw [e, h.hd] at hb
  cases hb
theorem DkIn.mbl (h : DkIn w base g s lb cp mb f k D) : mb ≠ lb := by
  obtain ⟨es, ck, hb, _⟩ := h.mp
  obtain ⟨cs, hc⟩ := (h.la.typed rfl).2.2
  intro e
  rw [e, hc] at hb
  cases hb
theorem DkIn.rowg (h : DkIn w base g s lb cp mb f k D) {i b : Nat} (hi : i < s.n) (hb : (f i).ownBlock = some b) : b ≠ g ∧ b ≠ mb ∧ b ≠ lb := by
  obtain ⟨cs, hc⟩ := ((h.rows i hi).typed hb).2.2
  refine ⟨blk_ne hc h.hd (by decide), ?_, fun e => h.sepl i hi (e ▸ hb)⟩
  obtain ⟨es, ck, hm, _⟩ := h.mp
  intro e
  rw [← e, hc] at hm
  cases hm
theorem DkIn.chg (h : DkIn w base g s lb cp mb f k D) (hc : Chg G w w') (hG : ∀ b, Fp g lb mb f s.n b → ¬ G b) : DkIn w' base g s lb cp mb f k D := by
  refine ⟨(hc.block g (blk_lt h.hd) (hG g (.inl rfl))).trans h.hd, h.la.chg hc (fun b hb => hG b (.inr (.inl (Option.some.inj hb).symm))), ?_, h.kc, h.at_, h.ks, fun i hi => (h.rows i hi).chg hc (fun b hb => hG b (.inr (.inr (.inr ⟨i, hi, hb⟩)))), h.wl, h.sep, h.sepl, h.gb, h.mbb, h.n2, h.nm⟩
  obtain ⟨es, ck, hb, r⟩ := h.mp
  exact ⟨es, ck, (hc.block mb (blk_lt hb) (hG mb (.inr (.inr (.inl rfl))))).trans hb, r⟩
theorem DkAt.chg (h : DkAt w base g F s) (hc : Chg G w w') (hG : ∀ b, F b → ¬ G b) : DkAt w' base g F s := by
  obtain ⟨lb, cp, mb, f, k, D, h1, h2⟩ := h
  exact ⟨lb, cp, mb, f, k, D, h1.chg hc (fun b hb => hG b ((h2 b).2 hb)), h2⟩
theorem DkAt.below (h : DkAt w base g F s) (hb : Below w.heap.size w w') : DkAt w' base g F s := h.chg (G := fun _ => False) (Chg.of_below hb) (fun _ _ => id)
theorem DkAt.foot (h : DkAt w base g F s) (b : Nat) (hb : F b) : base ≤ b ∧ b < w.heap.size := by
  obtain ⟨lb, cp, mb, f, k, D, h1, h2⟩ := h
  exact h1.foot b ((h2 b).1 hb)
theorem DkAt.typed (h : DkAt w base g F s) {b t : Nat} {cs : Array Value} {fr : Nat × Nat} (hb : w.heap[b]? = some (.cells cs t fr)) (h1 : t ≠ 89) (h2 : t ≠ 91) : ¬ F b := by
  obtain ⟨lb, cp, mb, f, k, D, h3, h4⟩ := h
  intro hF
  rcases (h4 b).1 hF with rfl | rfl | rfl | ⟨i, hi, hbi⟩
  · rw [h3.hd] at hb; injection hb with hb; injection hb with _ hb _; exact h1 hb.symm
  · obtain ⟨cs, hc⟩ := (h3.la.typed rfl).2.2
    rw [hc] at hb; injection hb with hb; injection hb with _ hb _; exact h2 hb.symm
  · obtain ⟨es, ck, hm, _⟩ := h3.mp
    rw [hm] at hb; cases hb
  · obtain ⟨cs, hc⟩ := ((h3.rows i hi).typed hbi).2.2
    rw [hc] at hb; injection hb with hb; injection hb with _ hb _; exact h2 hb.symm
theorem DkAt.n_le (h : DkAt w base g F s) : 2 ≤ s.n ∧ s.n ≤ 65536 := by
  obtain ⟨lb, cp, mb, f, k, D, h3, h4⟩ := h
  exact ⟨h3.n2, h3.nm⟩
theorem DkAt.lasts (h : DkAt w base g F s) : s.L.length = s.n ∧ ∀ x ∈ s.L, x.length = 512 := by
  obtain ⟨lb, cp, mb, f, k, D, h3, h4⟩ := h
  exact ⟨(Kd.R_reads' h3.la).1.symm, h3.la.each⟩
theorem DkIn.acts (h : DkIn w base g s lb cp mb f k D) (j : Nat) (x : Int) (s' : DS) (hs : s'.n = s.n ∧ s'.L = s.L ∧ s'.W = s.W ∧ s'.c = s.c)
    (hj : #[Value.slice (some ⟨lb, 0, none⟩) s.n cp, .map (some mb), .int .i64 s.r, .int .i64 s.wr, .int .i64 s.fl].setIfInBounds j (.int .i64 x) = #[Value.slice (some ⟨lb, 0, none⟩) s.n cp, .map (some mb), .int .i64 s'.r, .int .i64 s'.wr, .int .i64 s'.fl]) :
    DkIn (w.setCell ⟨g, j, none⟩ (.int .i64 x)) base g s' lb cp mb f k D := by
  obtain ⟨e1, e2, e3, e4⟩ := hs
  have far : ∀ b, b ≠ g → (w.setCell ⟨g, j, none⟩ (.int .i64 x)).heap[b]? = w.heap[b]? := fun b hb => Below.heap_setCell w ⟨g, j, none⟩ _ b hb
  refine ⟨?_, ?_, ?_, by rw [e4]; exact h.kc, by rw [e1]; exact h.at_, by rw [e1, e3]; exact h.ks, ?_, by rw [e1, e3, e4]; exact h.wl, by rw [e1]; exact h.sep, by rw [e1]; exact h.sepl, h.gb, h.mbb, by rw [e1]; exact h.n2, by rw [e1]; exact h.nm⟩
  · rw [e1, ← hj]; exact blk_set h.hd j _
  · rw [e1, e2]; exact h.la.step (fun b hb _ => far b (by cases hb; exact h.lbg))
  · obtain ⟨es, ck, hb, r⟩ := h.mp
    exact ⟨es, ck, (far mb h.mbg).trans hb, r⟩
  · rw [e1, e3]; exact fun i hi => (h.rows i hi).step (fun b hb _ => far b (h.rowg hi hb).1)
end
end Go.Proofs.Ytddnhcnkjcdfgaa.M

namespace Go.Proofs.Ytddnhcnkjcdfgaa.M
open Go.RowKit Go.Maps Go.Proofs.YtddnhcnkjcdfgaaW.PrintWords Go.Proofs.YtddnhcnkjcdfgaaW.PrintLast Go.Proofs.YtddnhcnkjcdfgaaW.PrintMore
set_option linter.unusedVariables false
set_option linter.unusedSimpArgs false
theorem info5 : (Try.prog.info? 5).map (fun i => (i.zero, i.size, i.bytes)) = some (some (.int .u8 0), 1, 1) := by kernel_rfl
theorem empty_row {d : IntKind} (W : World) (e base : Nat) (hb : base ≤ W.heap.size) : Kd.R (Kd.int d) e (W.alloc (.cells #[] e)) base (fun _ => True) (.slice (some ⟨W.heap.size, 0, none⟩) 0 0) [] := by
  have h := World.ownsRow_lit (base := base) (e := e) (size := 1) W #[] 0 hb (by decide) (by simp)
  exact Kd.R_of_own (enc := Value.int d) (h1 := fun _ => rfl) (xs := []) (by simpa [encs] using h) (fun _ _ => trivial)
set_option maxHeartbeats 4000000 in
set_option maxRecDepth 100000 in
theorem clone_calls (ad : Addr) (n c : Nat) (xs : List Int) (w : World) (h : (Kd.int .u8).C w (some ad) n xs) (hl : n ≤ 1000000) :
    Calls Try.prog 44 #[.slice (some ad) n c] w fun e w' => ∃ v, e = .returned v ∧ Kd.R (Kd.int .u8) 5 w' w.heap.size (fun _ => True) v xs ∧ Below w.heap.size w w' := by
  have hq : ∀ W : World, (binOp .eql 28 (.slice (some ad) n c) (.slice none 0 0)).run Try.prog W = .ok (.bool false) W := fun W => Lib.run_eql_slice_nil W _ 5 (some ad) n c 0 0 Try.underlying28
  have HH := Aside0.mk h
  have HL := Aside0.mk hl
  clear h hl
  go_enter Try.func44, Try.ntmps44
  go_wp2_with ((with_reducible refine gate_builtin (b := .append) (xs := #[.tmp 5, .tmp 6]) rfl ?_); (try (refine gate_guard (by rfl) ?_; dsimp only)); at_builtin; refine Kd.R_append_rows (Kd.int .u8) (w0 := w) w.heap.size rfl (.tmp 5) (.tmp 6) 28 5 (.int .u8 0) 1 rfl Try.underlying28 info5 rfl (by decide) (by omega) (.slice (some ⟨w.heap.size, 0, none⟩) 0 0) ([] : List Int) xs (some ad) n c (fun _ => True) (fun _ => False) rfl rfl ?aO ?aR (fun _ _ h => h) (fun _ h => h.elim) ?aF ?aB ?aS ?aL ?_; (case aO => exact empty_row w 5 w.heap.size (Nat.le_refl _)); (case aR => exact Kd.C_below HH.out (below_alloc (Below.refl _ _) _)); (case aF => exact (fun k hk => trivial)); (case aB => exact below_alloc (Below.refl _ _) _); (case aS => simp); (case aL => (have := HL.out; simp; omega)); intro v9 w9 ho hb hg hat)
  go_ret
  exact ⟨v9, rfl, by simpa using ho, hb⟩
theorem info91 : (Try.prog.info? 91).map (fun i => (i.zero, i.size, i.bytes)) = some (some (.agg (Array.replicate 512 (.int .u8 0))), 512, 512) := by kernel_rfl
def zeros : List Int := List.replicate 512 0
theorem zeros_len : zeros.length = 512 := by unfold zeros; rw [List.length_replicate]
theorem zeros_nums : nums .u8 zeros = (Array.replicate 512 (Value.int .u8 0)).toList := by unfold zeros nums; rw [List.map_replicate, Array.toList_replicate]
def DS.fresh (n : Nat) (L : List (List Int)) : DS := ⟨n, L, fun _ => [], 0, 0, 0, 0⟩
set_option maxHeartbeats 4000000 in
set_option maxRecDepth 100000 in
theorem many_calls (n : Int) (w : World) : Calls Try.prog 43 #[.int .i64 n] w fun e w' => e = .returned (.bool (decide (2 ≤ n ∧ n ≤ 65536))) ∧ w' = w := by
  by_cases h : 2 ≤ n
  · have h1 : decide (2 ≤ n) = true := decide_eq_true h
    by_cases h2 : n ≤ 65536
    · have h3 : decide (n ≤ 65536) = true := decide_eq_true h2
      rw [show decide (2 ≤ n ∧ n ≤ 65536) = true from decide_eq_true ⟨h, h2⟩]
      clear h h2
      go_enter Try.func43, Try.ntmps43
      go_wp2
      go_ret
      exact ⟨rfl, rfl⟩
    · have h3 : decide (n ≤ 65536) = false := decide_eq_false h2
      rw [show decide (2 ≤ n ∧ n ≤ 65536) = false from decide_eq_false (fun h => h2 h.2)]
      clear h h2
      go_enter Try.func43, Try.ntmps43
      go_wp2
      go_ret
      exact ⟨rfl, rfl⟩
  · have h1 : decide (2 ≤ n) = false := decide_eq_false h
    rw [show decide (2 ≤ n ∧ n ≤ 65536) = false from decide_eq_false (fun h2 => h h2.1)]
    clear h
    go_enter Try.func43, Try.ntmps43
    go_wp2
    go_ret
    exact ⟨rfl, rfl⟩
set_option maxHeartbeats 4000000 in
set_option maxRecDepth 100000 in
theorem outside_calls (g : Nat) (i : Int) (n : Nat) (A : Option Addr) (c : Nat) (w : World) (hd : w.cell? ⟨g, 0, none⟩ = some (.slice A n c)) : Calls Try.prog 41 #[.pointer (some ⟨g, 0, none⟩), .int .i64 i] w fun e w' => e = .returned (.bool (!decide (0 ≤ i ∧ i < (n : Int)))) ∧ w' = w := by
  by_cases h : i < 0
  · have h1 : decide (i < 0) = true := decide_eq_true h
    rw [show (!decide (0 ≤ i ∧ i < (n : Int))) = true by simp; omega]
    clear h
    go_enter Try.func41, Try.ntmps41
    go_wp2
    go_ret
    exact ⟨rfl, rfl⟩
  · have h1 : decide (i < 0) = false := decide_eq_false h
    by_cases h2 : (n : Int) ≤ i
    · have h3 : decide ((n : Int) ≤ i) = true := decide_eq_true h2
      rw [show (!decide (0 ≤ i ∧ i < (n : Int))) = true by simp; omega]
      clear h h2
      go_enter Try.func41, Try.ntmps41
      go_wp2
      go_ret
      exact ⟨rfl, rfl⟩
    · have h3 : decide ((n : Int) ≤ i) = false := decide_eq_false h2
      rw [show (!decide (0 ≤ i ∧ i < (n : Int))) = false by simp; omega]
      clear h h2
      go_enter Try.func41, Try.ntmps41
      go_wp2
      go_ret
      exact ⟨rfl, rfl⟩
theorem fresh_at {w : World} {base lb cp n : Nat} {L : List (List Int)} (hr : Rs w base (.slice (some ⟨lb, 0, none⟩) n cp) L) (hb : base ≤ w.heap.size) (h2 : 2 ≤ n) (hm : n ≤ 65536) :
    ∃ F, DkAt ((w.alloc (.map #[] 0)).alloc (.cells #[.slice (some ⟨lb, 0, none⟩) n cp, .map (some w.heap.size), .int .i64 0, .int .i64 0, .int .i64 0] 89)) base (w.heap.size + 1) F (DS.fresh n L) := by
  have hs : (w.alloc (.map #[] 0)).heap.size = w.heap.size + 1 := by simp
  refine ⟨_, lb, cp, w.heap.size, fun _ => .slice none 0 0, 0, .map [], ⟨?_, ?_, ?_, Nat.le_refl _, fun i _ => rfl, fun kl h => by simp [Maps.has] at h, fun i _ => ⟨fun k hk => by simp [Value.ownBlock] at hk, OwnRow.none_ _ _ _ _ _⟩, fun i _ => Nat.le_refl _, fun i j b _ _ h => by simp [Value.ownBlock] at h, fun i _ => by simp [Value.ownBlock], by omega, hb, h2, hm⟩, fun b => Iff.rfl⟩
  · have := heap_alloc_new (w.alloc (.map #[] 0)) (.cells #[.slice (some ⟨lb, 0, none⟩) n cp, .map (some w.heap.size), .int .i64 0, .int .i64 0, .int .i64 0] 89)
    rw [hs] at this
    exact this
  · exact (hr.below (below_alloc (Below.refl _ _) _)).below (below_alloc (Below.refl _ _) _)
  · exact (World.ownsMap_made w _ _ _).alloc _
set_option maxHeartbeats 4000000 in
set_option maxRecDepth 100000 in
theorem new_calls (n : Nat) (w : World) (h2 : 2 ≤ n) (hm : n ≤ 65536) :
    Calls Try.prog 21 #[.int .i64 (n : Int)] w fun e w' => ∃ g F, e = .returned (.tuple #[.pointer (some ⟨g, 0, none⟩), .int .i64 0]) ∧ DkAt w' w.heap.size g F (DS.fresh n (List.replicate n zeros)) ∧ Below w.heap.size w w' := by
  have Hmany := Aside0.mk (fun (W : World) => (show Calls Try.prog 43 #[.int .i64 (n : Int)] W fun e w' => e = .returned (.bool true) ∧ w' = W from by
    have h_ := many_calls (n : Int) W
    rw [show decide (2 ≤ (n : Int) ∧ (n : Int) ≤ 65536) = true from decide_eq_true (by omega)] at h_
    exact h_))
  have H2 := Aside0.mk h2
  have HM := Aside0.mk hm
  have hmm := @run_makeMap Try.prog
  have hz := Aside0.mk zeros_nums
  clear h2 hm
  go_enter Try.func21, Try.ntmps21
  go_wp2_with (first
    | (go_at_call 43; (with_reducible refine (Hmany.out _).mono ?_); rintro e w1 ⟨rfl, hw_⟩; subst hw_)
    | (at_make; refine Kd.R_make sec (w0 := w1) w1.heap.size 91 rfl (N := 8) rfl 86 (.tmp 7) (.tmp 7) rfl (n : Int) rfl rfl Try.underlying86 (.agg (Array.replicate 512 (.int .u8 0))) 512 info91 (by simp [sec, Value.cells]) (by decide) (by decide) zeros (ok := fun _ => True) (okp := fun _ => True) ?mz (fun _ h => h) trivial (by omega) ?ml (Below.refl _ _) (Nat.le_refl _) ?_; (case mz => exact ⟨zeros_len, hz.out.symm⟩); (case ml => have := HM.out; omega); intro v8 w2 hr hb hg hat; obtain ⟨lb, cp, e8, _, _, _⟩ := Kd.R_form hr (by rw [List.length_replicate]; have := H2.out; omega); rw [List.length_replicate, Int.toNat_natCast] at e8; subst e8; rw [Int.toNat_natCast] at hr; have HR := Aside0.mk (Rs.of hr); have HB := Aside0.mk hb; clear hr hb hg hat))
  go_ret2
  obtain ⟨F, hF⟩ := fresh_at HR.out HB.out.size H2.out HM.out
  exact ⟨_, F, rfl, hF, below_alloc (below_alloc HB.out _) _⟩
end Go.Proofs.Ytddnhcnkjcdfgaa.M

namespace Go.Proofs.Ytddnhcnkjcdfgaa.M
open Go.RowKit Go.Maps Go.Proofs.YtddnhcnkjcdfgaaW.PrintWords Go.Proofs.YtddnhcnkjcdfgaaW.PrintLast Go.Proofs.YtddnhcnkjcdfgaaW.PrintMore
set_option linter.unusedVariables false
set_option linter.unusedSimpArgs false
def DS.put (s : DS) (i : Nat) (b : List Int) : DS := ⟨s.n, s.L, fun j => if j = i then s.W i ++ [b] else s.W j, s.c + 1, s.r, wrap64 (s.wr + 1), s.fl⟩
theorem spot_of_C {w : World} {ad : Addr} {n : Nat} {xs : List Int} (h : (Kd.int .u8).C w (some ad) n xs) (hn : 0 < n) : ad.spot = none := by
  obtain ⟨ad', e, hc⟩ := Kd.at_int h 0 (by omega) (by omega)
  cases e
  cases hs : ad.spot with
  | none => rfl
  | some q =>
    exfalso
    rw [show ad.add (0 : Int).toNat = ad from rfl] at hc
    unfold World.cell? at hc
    split at hc
    · simp [hs] at hc
    · cases hc
theorem rangeAt_of_C {w : World} {ad : Addr} {n : Nat} {xs : List Int} (h : (Kd.int .u8).C w (some ad) n xs) (hs : ad.spot = none) : w.rangeAt ad.block ad.off (nums .u8 xs) := by
  intro j v hv
  obtain ⟨hl, _, hc⟩ := h
  have hj : j < xs.length := by
    have := (List.getElem?_eq_some_iff.1 hv).1
    rwa [nums_length] at this
  obtain ⟨ad', e, hcell⟩ := hc (by omega)
  cases e
  obtain ⟨cs, hcl, hk, hcell⟩ := hcell j _ (List.getElem?_eq_getElem hj)
  have hk' : cs = [.int .u8 xs[j]] := hk
  have h1 := hcell 0 (.int .u8 xs[j]) (by rw [hk']; rfl)
  have hv' : v = .int .u8 xs[j] := by
    rw [nums, List.getElem?_map, List.getElem?_eq_getElem hj] at hv
    exact (Option.some.inj hv).symm
  rw [hv']
  rw [show j * (Kd.int .u8).sz + 0 = j from Nat.mul_one j] at h1
  rw [← h1]
  congr 1
  obtain ⟨b, o, sp⟩ := ad
  dsimp only at hs ⊢
  subst hs
  exact (Addr.add_mid b o j).symm
theorem sap (A : Option Addr) (c : Nat) (W : World) : (Instr.arrayAt 91 (.slice A 512 c)).run Try.prog W = .ok (.pointer A) W := by
  have h := run_underlying Try.underlying91 W
  simp [Instr.arrayAt, Sem.run_bind, h]
theorem key_int (i : Int) (h : -9223372036854775808 ≤ i ∧ i ≤ 9223372036854775807) : keyOf Try.prog 3 (.int .i64 i) = some (.int .i64 i) :=
  keyOf_int_mk Try.underlying3 (by simp [Lit.wf, IntKind.min, IntKind.max, IntKind.signed, IntKind.bits]; omega)
theorem keyed : Keyed Try.prog 3 := int_keyed Try.underlying3
theorem zero86 (W : World) : (zeroValue 86).run Try.prog W = .ok (.slice none 0 0) W := by kernel_rfl
section
variable {w w' : World} {base g lb cp mb k : Nat} {F G : Nat → Prop} {s : DS} {f : Nat → Value} {D : DataW Value}
theorem DkIn.look (h : DkIn w base g s lb cp mb f k D) (i : Nat) (hi : i < s.n) : (Instr.lookup 87 (.map (some mb)) (.int .i64 (i : Int)) false).run Try.prog w = .ok (f i) w := by
  have hm := h.nm
  obtain ⟨v, ps, hrun, hv⟩ := h.mp.lookup keyed Try.underlying87 (zero86 w) (zd := .held (.slice none 0 0)) (zp := []) rfl (key_int (i : Int) (by omega))
  have e := h.at_ i hi
  have hv' : (some (DataW.held v, ([] : List MemPlace))) = some (D.atKey (.int .i64 (i : Int)) (.held (.slice none 0 0)), ps) := hv
  rw [e] at hv'
  have : v = f i := by
    have h1 := congrArg Prod.fst (Option.some.inj hv')
    exact DataW.held.inj h1
  rw [← this]
  exact hrun
end
theorem fold_zip : ∀ (l : List Value) (k : Nat) (cs : List Value), k + l.length ≤ cs.length → (l.zipIdx k).foldl (fun (a : Array Value) (p : Value × Nat) => a.setIfInBounds (0 + p.2) p.1) cs.toArray = (cs.take k ++ l ++ cs.drop (k + l.length)).toArray
  | [], k, cs, h => by simp
  | x :: l, k, cs, h => by
    rw [List.length_cons] at h
    rw [List.zipIdx_cons, List.foldl_cons]
    simp only [Nat.zero_add, List.setIfInBounds_toArray]
    have h1 := fold_zip l (k + 1) (cs.set k x) (by rw [List.length_set]; omega)
    simp only [Nat.zero_add] at h1
    rw [h1]
    congr 1
    rw [List.take_set, List.drop_set_of_lt (by omega), List.take_succ_eq_append_getElem (by omega), List.length_cons]
    rw [List.set_append_right _ _ (by rw [List.length_take]; omega)]
    simp [Nat.min_eq_left (show k ≤ cs.length by omega), show k + 1 + l.length = k + (l.length + 1) by omega]
theorem run_bs (cells : Array Value) (h : cells.size = 512) (v : Value) (hv : v.cells = cells) (W : World) : (Instr.buildSlice 86 1 #[(0, v)]).run Try.prog W = .ok (.slice (some ⟨W.heap.size, 0, none⟩) 1 1) (W.alloc (.cells cells 91)) := by
  obtain ⟨i, hi, hz, hsz, hby⟩ := info_parts info91
  generalize Value.agg (Array.replicate 512 (.int .u8 0)) = zv at hz
  refine run_buildSlice W _ _ 1 _ cells i zv Try.underlying86 hi hz (by rw [hsz]; decide) (by rw [hsz]; decide) ?_
  have hl : ((Array.range (1 * i.size)).map (zv.cells[· % zv.cells.size]!)).size = 512 := by
    rw [Array.size_map, Array.size_range, hsz]
  generalize (Array.range (1 * i.size)).map (zv.cells[· % zv.cells.size]!) = z at hl
  have h1 := fold_zip cells.toList 0 z.toList (by rw [Array.length_toList, Array.length_toList, h, hl]; omega)
  rw [Array.toArray_toList] at h1
  have h2 : cells.zipIdx.foldl (fun cs (p : Value × Nat) => cs.setIfInBounds (0 + p.2) p.1) z = (cells.toList.zipIdx 0).foldl (fun cs (p : Value × Nat) => cs.setIfInBounds (0 + p.2) p.1) z := by
    rw [← Array.foldl_toList, Array.toList_zipIdx]
  rw [h1] at h2
  have h3 : (z.toList.take 0 ++ cells.toList ++ z.toList.drop (0 + cells.toList.length)).toArray = cells := by
    rw [List.drop_of_length_le (by rw [Array.length_toList, Array.length_toList, h, hl]; omega), List.append_nil, List.take_zero, List.nil_append, Array.toArray_toList]
  rw [h3] at h2
  have h4 : ((v.cells.size ≠ i.size) || decide (0 * i.size + v.cells.size > z.size)) = false := by rw [hv, h, hsz, hl]; decide
  show Instr.fill _ z [(0, v)] = some cells
  unfold Instr.fill
  simp only [h4, Bool.false_eq_true, if_false]
  unfold Instr.fill
  rw [hv, Nat.zero_mul]
  exact congrArg some h2
theorem wp_bs' {o : Oper} {x : Operand} {a : Act} {W : World} {K : Act → World → Prop} {Q : Exit → Act → World → Prop} (ho : o.op = .buildSlice 86 1 #[(0, x)]) (h : (a.eval x).cells.size = 512) :
    Oper.wp Try.prog o a W K Q = K (a.put o.dst (.slice (some ⟨W.heap.size, 0, none⟩) 1 1)) (W.alloc (.cells (a.eval x).cells 91)) := by
  have h1 := run_bs (a.eval x).cells h (a.eval x) rfl W
  unfold Oper.wp execOp
  simp only [ho, Sem.run_bind, List.map_toArray, List.map_cons, List.map_nil, h1, Result.andThen_ok]
  rfl
theorem wp_bs {d : Option Tmp} {x : Operand} {t : TypeId} {p : String} {af : Array Edge} {gd : Option (Nat × Bool)} {a : Act} {W : World} {K : Act → World → Prop} {Q : Exit → Act → World → Prop} (h : (a.eval x).cells.size = 512) :
    Oper.wp Try.prog ⟨d, .buildSlice 86 1 #[(0, x)], t, p, af, gd⟩ a W K Q = K (a.put d (.slice (some ⟨W.heap.size, 0, none⟩) 1 1)) (W.alloc (.cells (a.eval x).cells 91)) := wp_bs' rfl h
attribute [local go_sem ↓] Go.wp_at_zero Go.wp_at_succ wp_bs
end Go.Proofs.Ytddnhcnkjcdfgaa.M

namespace Go.Proofs.Ytddnhcnkjcdfgaa.M
open Go.RowKit Go.Maps Go.Proofs.YtddnhcnkjcdfgaaW.PrintWords Go.Proofs.YtddnhcnkjcdfgaaW.PrintLast Go.Proofs.YtddnhcnkjcdfgaaW.PrintMore
set_option linter.unusedVariables false
set_option linter.unusedSimpArgs false
attribute [local go_sem ↓] Go.wp_at_zero Go.wp_at_succ wp_bs
section
variable {w w2 w3 w4 : World} {base g lb cp mb k i : Nat} {s : DS} {f : Nat → Value} {D : DataW Value} {b : List Int} {v1 : Value}
theorem write_end (hi : i < s.n) (hx : Chg (Fp g lb mb f s.n) w w2) (h : DkIn w2.drew base g ⟨s.n, s.L, s.W, s.c, s.r, wrap64 (s.wr + 1), s.fl⟩ lb cp mb f k D)
    (ho : Kd.R sec 91 w3 base (fun x => (f i).ownBlock = some x ∨ w2.drew.heap.size ≤ x) v1 (s.W i ++ [b]) ∧ w2.drew.grownBy w3 (f i).ownBlock ∧ (v1.ownBlock = (f i).ownBlock ∨ ∃ q, v1.ownBlock = some q ∧ w2.drew.heap.size ≤ q) ∧ w4.ownsMap Try.prog 3 asIs mb (k + 1) (D.put (.int .i64 (i : Int)) (.held v1)) ∧ w3.grownBy w4 (some mb)) :
    ∃ F', DkAt w4 base g F' (s.put i b) ∧ (∀ x, F' x → Fp g lb mb f s.n x ∨ w.heap.size ≤ x) ∧ Chg (Fp g lb mb f s.n) w w4 := by
  obtain ⟨hr, hg, hat, hown, hgr⟩ := ho
  have hh : w2.drew.heap = w2.heap := rfl
  have hc3 : Chg (fun x => (f i).ownBlock = some x) w2.drew w3 := Chg.of_grown hg (fun x hx => hx)
  have hc4 : Chg (fun x => x = mb) w3 w4 := Chg.of_grown hgr (fun x hx => (Option.some.inj hx).symm)
  have hc : Chg (fun x => x = mb ∨ (f i).ownBlock = some x) w2.drew w4 := (hc3.mono (fun x hx => .inr hx)).trans hc4 (fun x hx => .inl (.inl hx))
  have hkey : WideAt.IsKeyLit (.int .i64 (i : Int)) := trivial
  have hf : ∀ j, j ≠ i → ∀ x, j < s.n → (f j).ownBlock = some x → v1.ownBlock = some x → False := by
    intro j hj x hjn hx hv
    rcases hat with e | ⟨q, e, hq⟩
    · rw [e] at hv
      exact hj (h.sep j i x hjn hi hx hv)
    · rw [e] at hv
      have := ((h.rows j hjn).typed hx).2.1
      cases hv
      omega
  refine ⟨Fp g lb mb (fun j => if j = i then v1 else f j) s.n, ⟨lb, cp, mb, fun j => if j = i then v1 else f j, k + 1, D.put (.int .i64 (i : Int)) (.held v1), ⟨?_, ?_, hown, Nat.succ_le_succ h.kc, ?_, ?_, ?_, ?_, ?_, ?_, h.gb, h.mbb, h.n2, h.nm⟩, fun x => Iff.rfl⟩, ?_, ?_⟩
  · exact (hc.block g (blk_lt h.hd) (fun e => by rcases e with e | e; exact h.mbg e.symm; exact (h.rowg hi e).1 rfl)).trans h.hd
  · exact h.la.chg hc (fun x hx e => by cases hx; rcases e with e | e; exact h.mbl e.symm; exact (h.rowg hi e).2.2 rfl)
  · intro j hj
    by_cases e : j = i
    · subst e
      rw [if_pos rfl]
      exact atKey_put_same (h.mp.isMap) hkey _ _
    · rw [if_neg e]
      exact (atKey_put_other (fun e2 => e (by injection e2 with _ e2; omega)) _ _).trans (h.at_ j hj)
  · intro kl hkl
    by_cases e : kl = .int .i64 (i : Int)
    · exact ⟨i, hi, e, by show (if i = i then s.W i ++ [b] else s.W i) ≠ []; rw [if_pos rfl]; simp⟩
    · rw [has_put_other e] at hkl
      obtain ⟨j, hj, e1, e2⟩ := h.ks kl hkl
      refine ⟨j, hj, e1, ?_⟩
      show (if j = i then s.W i ++ [b] else s.W j) ≠ []
      by_cases e3 : j = i
      · rw [if_pos e3]; simp
      · rw [if_neg e3]; exact e2
  · intro j hj
    show Rs w4 base (if j = i then v1 else f j) (if j = i then s.W i ++ [b] else s.W j)
    by_cases e : j = i
    · rw [if_pos e, if_pos e]
      refine (Rs.of hr).chg hc4 (fun x hx e2 => ?_)
      have e2 : x = mb := e2
      obtain ⟨cs, hcs⟩ := (Rs.typed (Rs.of hr) hx).2.2
      rw [e2] at hcs
      obtain ⟨es, ck, hm, _⟩ := h.mp.kept hg (fun e => (h.rowg hi e.symm).2.1 rfl)
      rw [hcs] at hm
      cases hm
    · rw [if_neg e, if_neg e]
      refine (h.rows j hj).chg hc (fun x hx e2 => ?_)
      rcases e2 with e2 | e2
      · exact (h.rowg hj hx).2.1 e2
      · exact e (h.sep j i x hj hi hx e2)
  · intro j hj
    show (if j = i then s.W i ++ [b] else s.W j).length ≤ s.c + 1
    by_cases e : j = i
    · rw [if_pos e, List.length_append]
      have : (s.W i).length ≤ s.c := h.wl i hi
      simp
      omega
    · rw [if_neg e]
      have : (s.W j).length ≤ s.c := h.wl j hj
      omega
  · intro j q x hj hq h1 h2
    have h1 : (if j = i then v1 else f j).ownBlock = some x := h1
    have h2 : (if q = i then v1 else f q).ownBlock = some x := h2
    by_cases e : j = i
    · by_cases e2 : q = i
      · omega
      · rw [if_pos e] at h1
        rw [if_neg e2] at h2
        exact (hf q e2 x hq h2 h1).elim
    · rw [if_neg e] at h1
      by_cases e2 : q = i
      · rw [if_pos e2] at h2
        exact (hf j e x hj h1 h2).elim
      · rw [if_neg e2] at h2
        exact h.sep j q x hj hq h1 h2
  · intro j hj e
    have e : (if j = i then v1 else f j).ownBlock = some lb := e
    by_cases e1 : j = i
    · rw [if_pos e1] at e
      rcases hat with e2 | ⟨q, e2, hq⟩
      · rw [e2] at e
        exact h.sepl i hi e
      · rw [e2] at e
        have h5 := (h.la.typed rfl).2.1
        have h6 : q = lb := Option.some.inj e
        rw [h6] at hq
        exact absurd hq (Nat.not_le.2 h5)
    · rw [if_neg e1] at e
      exact h.sepl j hj e
  · intro x hx2
    rcases hx2 with e | e | e | ⟨j, hj, e⟩
    · exact .inl (.inl e)
    · exact .inl (.inr (.inl e))
    · exact .inl (.inr (.inr (.inl e)))
    · have e : (if j = i then v1 else f j).ownBlock = some x := e
      by_cases e1 : j = i
      · rw [if_pos e1] at e
        rcases hat with e2 | ⟨q, e2, hq⟩
        · rw [e2] at e
          exact .inl (.inr (.inr (.inr ⟨i, hi, e⟩)))
        · rw [e2] at e
          cases e
          right
          have := hx.size
          rw [hh] at hq
          omega
      · rw [if_neg e1] at e
        exact .inl (.inr (.inr (.inr ⟨j, hj, e⟩)))
  · refine (hx.trans (Chg.of_below (below_drew1 (Below.refl _ _)) : Chg (Fp g lb mb f s.n) w2 w2.drew) (fun x hx => .inl hx)).trans (hc.mono (fun x e => ?_)) (fun x e => .inl e)
    rcases e with e | e
    · exact .inr (.inr (.inl e))
    · exact .inr (.inr (.inr ⟨i, hi, e⟩))
end
set_option maxHeartbeats 1000000 in
set_option maxRecDepth 100000 in
theorem write_in (g i : Nat) (A : Option Addr) (c : Nat) (b : List Int) (w : World) (base lb cp mb k : Nat) (f : Nat → Value) (D : DataW Value) (s : DS) (h : DkIn w base g s lb cp mb f k D) (hi : i < s.n) (hC : (Kd.int .u8).C w A 512 b) (hne : ∀ ad, A = some ad → ¬ Fp g lb mb f s.n ad.block) (hc : s.c < 1073741824) :
    Calls Try.prog 16 #[.pointer (some ⟨g, 0, none⟩), .int .i64 (i : Int), .slice A 512 c] w fun e w' => e = .returned (.int .i64 0) ∧ ∃ F', DkAt w' base g F' (s.put i b) ∧ (∀ b, F' b → Fp g lb mb f s.n b ∨ w.heap.size ≤ b) ∧ Chg (Fp g lb mb f s.n) w w' := by
  obtain ⟨ad, rfl, _⟩ := Kd.at_int hC 0 (by omega) (by omega)
  have hspot := spot_of_C hC (by omega)
  obtain ⟨ab, ao, asp⟩ := ad
  obtain rfl : asp = none := hspot
  have hrange := rangeAt_of_C hC rfl
  have hblen : b.length = 512 := hC.1
  have hag : ab ≠ g := fun e => hne _ rfl (.inl e)
  have hn2 := h.n2
  have hnm := h.nm
  have hg0 : w.cell? ⟨g, 0, none⟩ = some (.slice (some ⟨lb, 0, none⟩) s.n cp) := blk_cell h.hd 0
  have hg3 : w.cell? ⟨g, 3, none⟩ = some (.int .i64 s.wr) := blk_cell h.hd 3
  have hgf : w.frozen? ⟨g, 3, none⟩ = false := blk_frozen h.hd 3
  have Hout := Aside0.mk (show Calls Try.prog 41 #[.pointer (some ⟨g, 0, none⟩), .int .i64 (i : Int)] w fun e w' => e = .returned (.bool false) ∧ w' = w from by
    have h_ := outside_calls g (i : Int) s.n (some ⟨lb, 0, none⟩) cp w hg0
    rw [show (!decide (0 ≤ (i : Int) ∧ (i : Int) < (s.n : Int))) = false by simp; omega] at h_
    exact h_)
  have H1 := Aside0.mk (h.acts 3 (wrap64 (s.wr + 1)) ⟨s.n, s.L, s.W, s.c, s.r, wrap64 (s.wr + 1), s.fl⟩ ⟨rfl, rfl, rfl, rfl⟩ rfl)
  have HR := Aside0.mk (show (w.setCell ⟨g, 3, none⟩ (.int .i64 (wrap64 (s.wr + 1)))).rangeAt ab ao (nums .u8 b) from fun j v hv => (World.cell?_setCell_far w ⟨g, 3, none⟩ ⟨ab, ao + j, none⟩ _ (fun e => hag e.symm)).trans (hrange j v hv))
  have HNE := Aside0.mk (hne _ rfl)
  have hsap := sap (some ⟨ab, ao, none⟩) c
  have HI := Aside0.mk hi
  have HC := Aside0.mk hc
  have HBL := Aside0.mk hblen
  have HX := Aside0.mk (Chg.setCell (F := Fp g lb mb f s.n) (Chg.refl _ w) (.inl rfl) 3 (.int .i64 (wrap64 (s.wr + 1))))
  have hi0 : (0 : Int) ≤ (i : Int) := by omega
  clear hrange hblen hi hc h hC hne hag
  go_enter Try.func16, Try.ntmps16
  go_wp2_with (go_at_call 41; (with_reducible refine Hout.out.mono ?_); rintro e w1 ⟨rfl, hw_⟩; subst hw_)
  have hg1 : ∀ W, DkIn W base g ⟨s.n, s.L, s.W, s.c, s.r, wrap64 (s.wr + 1), s.fl⟩ lb cp mb f k D → W.cell? ⟨g, 1, none⟩ = some (.map (some mb)) := fun W h => blk_cell h.hd 1
  have HG1 := Aside0.mk hg1
  clear hg1 Hout hg0 hg3 hgf
  generalize w1.setCell ⟨g, 3, none⟩ (.int .i64 (wrap64 (s.wr + 1))) = w2 at H1 HR HX ⊢
  have HS := Aside0.mk (fun (W : World) (hb : Chg (fun x => x = mb ∨ (f i).ownBlock = some x) w2 W) => (show W.cell? ⟨g, 1, none⟩ = some (.map (some mb)) ∧ W.rangeAt ab ao (nums .u8 b) from
    ⟨(blk_cell ((hb.block g (blk_lt H1.out.hd) (fun e => by rcases e with e | e; exact H1.out.mbg e.symm; exact (H1.out.rowg HI.out e).1 rfl)).trans H1.out.hd) 1).trans rfl, fun j v hv => by
      have h1 := HR.out j v hv
      have h2 := hb.block ab (World.block_lt_of_cell? w2 _ h1) (fun e => HNE.out (by rcases e with e | e; exact .inr (.inr (.inl e)); exact .inr (.inr (.inr ⟨i, HI.out, e⟩))))
      rw [← h1]
      unfold World.cell?
      rw [h2]⟩))
  have hlb : (nums .u8 b).length = 512 := by rw [nums_length, HBL.out]
  have hnb : ∀ v ∈ nums .u8 b, v.oneCell' = true := fun v hv => by obtain ⟨y, _, rfl⟩ := List.mem_map.1 hv; rfl
  have hu91 := Try.underlying91
  have hi91 : (Try.prog.info? 91).map (·.size) = some (nums .u8 b).length := by rw [hlb]; kernel_rfl
  generalize hcb : nums .u8 b = cb at *
  have HCB := Aside0.mk hcb
  clear hcb
  have HD := Aside0.mk (H1.out.chg (G := fun _ => False) (Chg.of_below (below_drew1 (Below.refl _ _))) (fun _ _ => id))
  have hlk := HD.out.look i HI.out
  have hlk2 : (Instr.lookup 87 (.map (some mb)) (.int .i64 (i : Int)) false).run Try.prog (w2.alloc (.cells cb.toArray 91)).drew = .ok (f i) (w2.alloc (.cells cb.toArray 91)).drew := (HD.out.chg (w' := (w2.alloc (.cells cb.toArray 91)).drew) (G := fun _ => False) (Chg.of_below (below_alloc (w := w2.drew) (Below.refl _ _) (.cells cb.toArray 91))) (fun _ _ => id)).look i HI.out
  have HSD := Aside0.mk (HS.out w2.drew (Chg.of_below (below_drew1 (Below.refl _ _))))
  have HSA := Aside0.mk (HS.out (w2.drew.alloc (.cells cb.toArray 91)) (Chg.of_below (below_alloc (below_drew1 (Below.refl _ _)) _)))
  have HSC := Aside0.mk (show sec.M w2.drew base (fun _ => False) b cb from ⟨HBL.out, HCB.out.symm⟩)
  refine wp_region_noPanic ?_
  refine wp_region_held_drew (S := (fun W => W.cell? ⟨g, 1, none⟩ = some (.map (some mb)) ∧ W.rangeAt ab ao cb)) (by kernel_rfl) HSD.out (fun hHeld => ?_)
  refine wpAnyH_take (i := 0) (oi := { dst := some 24, op := Go.Op.move (Go.Operand.tmp 0), type := 23, pos := "disk.go:73", after := #[], guard := none }) (v := ?_) rfl (by kernel_rfl) (by kernel_rfl) (by kernel_rfl) (fun _ _ _ h => h) (Or.inl ⟨by rfl, ?_⟩) (by assumption) ?_
  rotate_left
  · intro W hSw; (try dsimp only at hSw); go_simp; first | done | with_reducible rfl
  (try simp only [Act.put, List.setIfInBounds_toArray, List.set_cons_zero, List.set_cons_succ])
  refine wpAnyH_take (i := 1) (oi := { dst := some 25, op := Go.Op.nilCheck (Go.Operand.tmp 24), type := 0, pos := "disk.go:73", after := #[{ on := 0, ground := Go.Ground.data }], guard := none }) (v := ?_) rfl (by kernel_rfl) (by kernel_rfl) (by kernel_rfl) (fun _ _ _ h => h) (Or.inl ⟨by rfl, ?_⟩) (by assumption) ?_
  rotate_left
  · intro W hSw; (try dsimp only at hSw); go_simp; first | done | with_reducible rfl
  (try simp only [Act.put, List.setIfInBounds_toArray, List.set_cons_zero, List.set_cons_succ])
  refine wpAnyH_take (i := 2) (oi := { dst := some 26, op := Go.Op.fieldAddr 89 (Go.Operand.tmp 25) 1, type := 0, pos := "disk.go:73", after := #[{ on := 1, ground := Go.Ground.data }], guard := none }) (v := ?_) rfl (by kernel_rfl) (by kernel_rfl) (by kernel_rfl) (fun _ _ _ h => h) (Or.inl ⟨by rfl, ?_⟩) (by assumption) ?_
  rotate_left
  · intro W hSw; (try dsimp only at hSw); go_simp; first | done | with_reducible rfl
  (try simp only [Act.put, List.setIfInBounds_toArray, List.set_cons_zero, List.set_cons_succ])
  refine wpAnyH_take (i := 3) (oi := { dst := some 27, op := Go.Op.load 87 (Go.Operand.tmp 26), type := 87, pos := "disk.go:73", after := #[{ on := 2, ground := Go.Ground.data }], guard := none }) (v := ?_) rfl (by kernel_rfl) (by kernel_rfl) (by kernel_rfl) (fun _ _ _ h => h) (Or.inl ⟨by rfl, ?_⟩) (by assumption) ?_
  rotate_left
  · intro W hSw; (try dsimp only at hSw); go_simp; first | done | with_reducible rfl
  (try simp only [Act.put, List.setIfInBounds_toArray, List.set_cons_zero, List.set_cons_succ])
  refine wpAnyH_take (i := 4) (oi := { dst := some 28, op := Go.Op.move (Go.Operand.tmp 1), type := 3, pos := "disk.go:73", after := #[], guard := none }) (v := ?_) rfl (by kernel_rfl) (by kernel_rfl) (by kernel_rfl) (fun _ _ _ h => h) (Or.inl ⟨by rfl, ?_⟩) (by assumption) ?_
  rotate_left
  · intro W hSw; (try dsimp only at hSw); go_simp; first | done | with_reducible rfl
  (try simp only [Act.put, List.setIfInBounds_toArray, List.set_cons_zero, List.set_cons_succ])
  refine wpAnyH_take (i := 5) (oi := { dst := some 29, op := Go.Op.move (Go.Operand.tmp 0), type := 23, pos := "disk.go:73", after := #[], guard := none }) (v := ?_) rfl (by kernel_rfl) (by kernel_rfl) (by kernel_rfl) (fun _ _ _ h => h) (Or.inl ⟨by rfl, ?_⟩) (by assumption) ?_
  rotate_left
  · intro W hSw; (try dsimp only at hSw); go_simp; first | done | with_reducible rfl
  (try simp only [Act.put, List.setIfInBounds_toArray, List.set_cons_zero, List.set_cons_succ])
  refine wpAnyH_take (i := 6) (oi := { dst := some 30, op := Go.Op.nilCheck (Go.Operand.tmp 29), type := 0, pos := "disk.go:73", after := #[{ on := 5, ground := Go.Ground.data }], guard := none }) (v := ?_) rfl (by kernel_rfl) (by kernel_rfl) (by kernel_rfl) (fun _ _ _ h => h) (Or.inl ⟨by rfl, ?_⟩) (by assumption) ?_
  rotate_left
  · intro W hSw; (try dsimp only at hSw); go_simp; first | done | with_reducible rfl
  (try simp only [Act.put, List.setIfInBounds_toArray, List.set_cons_zero, List.set_cons_succ])
  refine wpAnyH_take (i := 7) (oi := { dst := some 31, op := Go.Op.fieldAddr 89 (Go.Operand.tmp 30) 1, type := 0, pos := "disk.go:73", after := #[{ on := 6, ground := Go.Ground.data }], guard := none }) (v := ?_) rfl (by kernel_rfl) (by kernel_rfl) (by kernel_rfl) (fun _ _ _ h => h) (Or.inl ⟨by rfl, ?_⟩) (by assumption) ?_
  rotate_left
  · intro W hSw; (try dsimp only at hSw); go_simp; first | done | with_reducible rfl
  (try simp only [Act.put, List.setIfInBounds_toArray, List.set_cons_zero, List.set_cons_succ])
  refine wpAnyH_take (i := 8) (oi := { dst := some 32, op := Go.Op.load 87 (Go.Operand.tmp 31), type := 87, pos := "disk.go:73", after := #[{ on := 7, ground := Go.Ground.data }], guard := none }) (v := ?_) rfl (by kernel_rfl) (by kernel_rfl) (by kernel_rfl) (fun _ _ _ h => h) (Or.inl ⟨by rfl, ?_⟩) (by assumption) ?_
  rotate_left
  · intro W hSw; (try dsimp only at hSw); go_simp; first | done | with_reducible rfl
  (try simp only [Act.put, List.setIfInBounds_toArray, List.set_cons_zero, List.set_cons_succ])
  refine wpAnyH_take (i := 9) (oi := { dst := some 33, op := Go.Op.move (Go.Operand.tmp 1), type := 3, pos := "disk.go:73", after := #[], guard := none }) (v := ?_) rfl (by kernel_rfl) (by kernel_rfl) (by kernel_rfl) (fun _ _ _ h => h) (Or.inl ⟨by rfl, ?_⟩) (by assumption) ?_
  rotate_left
  · intro W hSw; (try dsimp only at hSw); go_simp; first | done | with_reducible rfl
  (try simp only [Act.put, List.setIfInBounds_toArray, List.set_cons_zero, List.set_cons_succ])
  refine wpAnyH_take (i := 11) (oi := { dst := some 35, op := Go.Op.move (Go.Operand.tmp 2), type := 28, pos := "disk.go:73", after := #[], guard := none }) (v := ?_) rfl (by kernel_rfl) (by kernel_rfl) (by kernel_rfl) (fun _ _ _ h => h) (Or.inl ⟨by rfl, ?_⟩) (by assumption) ?_
  rotate_left
  · intro W hSw; (try dsimp only at hSw); go_simp; first | done | with_reducible rfl
  (try simp only [Act.put, List.setIfInBounds_toArray, List.set_cons_zero, List.set_cons_succ])
  refine wpAnyH_take (i := 12) (oi := { dst := some 36, op := Go.Op.sliceToArrayPointer 91 (Go.Operand.tmp 35), type := 0, pos := "disk.go:73", after := #[{ on := 11, ground := Go.Ground.data }], guard := none }) (v := ?_) rfl (by kernel_rfl) (by kernel_rfl) (by kernel_rfl) (fun _ _ _ h => h) (Or.inl ⟨by rfl, ?_⟩) (by assumption) ?_
  rotate_left
  · intro W hSw; (try dsimp only at hSw); go_simp; first | done | with_reducible rfl
  (try simp only [Act.put, List.setIfInBounds_toArray, List.set_cons_zero, List.set_cons_succ])
  refine wpAnyH_take (i := 13) (oi := { dst := some 37, op := Go.Op.load 91 (Go.Operand.tmp 36), type := 91, pos := "disk.go:73", after := #[{ on := 12, ground := Go.Ground.data }], guard := none }) (v := .agg cb.toArray) rfl (by kernel_rfl) (by kernel_rfl) (by kernel_rfl) (fun _ _ _ h => h) (yieldsIf_load_mid (by rfl) 91 (.tmp 36) rfl ab ao rfl cb _ (fun W hSw => hSw.2) hu91 rfl hi91) (by assumption) ?_
  (try simp only [Act.put, List.setIfInBounds_toArray, List.set_cons_zero, List.set_cons_succ])
  refine wpAnyH_ready (rs := [10, 14]) (by kernel_rfl) (by simp) ?_
  refine AllReadyH.cons (o := { dst := some 34, op := Go.Op.lookup 87 (Go.Operand.tmp 32) (Go.Operand.tmp 33) false, type := 86, pos := "disk.go:73", after := #[{ on := 8, ground := Go.Ground.data }, { on := 9, ground := Go.Ground.data }], guard := none }) rfl (fun K hK => ?_) ?_
  · go_simp
    refine hK.out _ _ HSD.out (fun hHeld => ?_)
    clear hK K
    (try simp only [Act.put, List.setIfInBounds_toArray, List.set_cons_zero, List.set_cons_succ])
    refine wpAnyH_ready (rs := [14]) (by kernel_rfl) (by simp) ?_
    refine AllReadyH.cons (o := { dst := some 38, op := Go.Op.buildSlice 86 1 #[(0, Go.Operand.tmp 37)], type := 86, pos := "disk.go:73", after := #[{ on := 13, ground := Go.Ground.data }], guard := none }) rfl (fun K hK => ?_) AllReadyH.nil
    go_simp
    refine hK.out _ (w2.alloc (.cells cb.toArray 91)).drew HSA.out (fun hHeld => ?_)
    clear hK K
    (try simp only [Act.put, List.setIfInBounds_toArray, List.set_cons_zero, List.set_cons_succ])
    refine wpAnyH_ready (rs := [15]) (by kernel_rfl) (by simp) ?_
    refine AllReadyH.cons (o := { dst := some 39, op := Go.Op.call { callee := Go.Callee.builtin Go.Builtin.append, args := #[Go.Operand.tmp 34, Go.Operand.tmp 38], argTypes := #[86, 86] }, type := 86, pos := "disk.go:73", after := #[{ on := 10, ground := Go.Ground.data }, { on := 14, ground := Go.Ground.data }], guard := none }) rfl (fun K hK => ?_) AllReadyH.nil
    (refine Kd.R_append_step sec (w0 := w2.drew) (W := w2.drew) base (by rfl) (.tmp 34) (.tmp 38) 86 91 (.agg (Array.replicate 512 (.int .u8 0))) 512 (by rfl) Try.underlying86 info91 (by simp [sec, Value.cells]) (by decide) (by decide) (f i) (s.W i) b cb (fun x => (f i).ownBlock = some x ∨ w2.drew.heap.size ≤ x) (fun _ => False) (by rfl) (by rfl) HSC.out (fun _ h => h.elim) (fun _ h => .inr h) (Kd.R_mono (HD.out.rows i HI.out) (fun _ h => .inl h)) (Below.refl _ _) (by have := HD.out.gb; have := blk_lt HD.out.hd; omega) (by have h3 : (s.W i).length ≤ s.c := HD.out.wl i HI.out; have := HC.out; omega) ?_)
    intro v1 w3 ho hb hg hat
    obtain ⟨w4, hrun, hown, hgr⟩ := (HD.out.mp.kept hg (fun e => (HD.out.rowg HI.out e.symm).2.1 rfl)).update keyed Try.underlying87 (by have := HD.out.kc; have h2 : k ≤ s.c := this; have := HC.out; unfold maxLen; omega) (key_int (i : Int) (by have := HI.out; omega)) (show asIs v1 = some (.held v1, []) from rfl)
    have HO := Aside0.mk (And.intro ho (And.intro hg (And.intro hat (And.intro hown hgr))))
    have HSB := Aside0.mk (HS.out w3 ((Chg.of_below (below_drew1 (Below.refl _ _))).trans (Chg.of_grown hg (fun k hk => .inr hk)) (fun _ h => .inl h)))
    have HSE := Aside0.mk (HS.out w4 (((Chg.of_below (below_drew1 (Below.refl _ _))).trans (Chg.of_grown hg (fun k hk => .inr hk)) (fun _ h => .inl h)).trans (Chg.of_grown hgr (fun k hk => .inl (Option.some.inj hk).symm)) (fun _ h => .inl h)))
    clear ho hb hg hat hown hgr
    refine hK.out _ _ HSB.out (fun hHeld => ?_)
    clear hK K
    (try simp only [Act.put, List.setIfInBounds_toArray, List.set_cons_zero, List.set_cons_succ])
    refine wpAnyH_ready (rs := [16]) (by kernel_rfl) (by simp) ?_
    refine AllReadyH.cons (o := { dst := none, op := Go.Op.mapUpdate 87 (Go.Operand.tmp 27) (Go.Operand.tmp 28) (Go.Operand.tmp 39), type := 0, pos := "disk.go:73", after := #[{ on := 3, ground := Go.Ground.data }, { on := 4, ground := Go.Ground.data }, { on := 15, ground := Go.Ground.data }, { on := 15, ground := Go.Ground.chain }, { on := 0, ground := Go.Ground.phase }, { on := 1, ground := Go.Ground.phase }, { on := 2, ground := Go.Ground.phase }, { on := 3, ground := Go.Ground.phase }, { on := 4, ground := Go.Ground.phase }, { on := 5, ground := Go.Ground.phase }, { on := 6, ground := Go.Ground.phase }, { on := 7, ground := Go.Ground.phase }, { on := 8, ground := Go.Ground.phase }, { on := 9, ground := Go.Ground.phase }, { on := 10, ground := Go.Ground.phase }, { on := 11, ground := Go.Ground.phase }, { on := 12, ground := Go.Ground.phase }, { on := 13, ground := Go.Ground.phase }, { on := 14, ground := Go.Ground.phase }, { on := 15, ground := Go.Ground.phase }], guard := none }) rfl (fun K hK => ?_) AllReadyH.nil
    go_simp
    refine hK.out _ _ HSE.out (fun hHeld => ?_)
    clear hK K
    (try simp only [Act.put, List.setIfInBounds_toArray, List.set_cons_zero, List.set_cons_succ])
    refine wpAnyH_done (by kernel_rfl) ?_ _
    refine NoPanic.normal ?_
    go_wp2
    go_ret
    exact ⟨rfl, write_end HI.out HX.out HD.out HO.out⟩
  refine AllReadyH.cons (o := { dst := some 38, op := Go.Op.buildSlice 86 1 #[(0, Go.Operand.tmp 37)], type := 86, pos := "disk.go:73", after := #[{ on := 13, ground := Go.Ground.data }], guard := none }) rfl (fun K hK => ?_) AllReadyH.nil
  go_simp
  refine hK.out _ (w2.alloc (.cells cb.toArray 91)).drew HSA.out (fun hHeld => ?_)
  clear hK K
  (try simp only [Act.put, List.setIfInBounds_toArray, List.set_cons_zero, List.set_cons_succ])
  refine wpAnyH_ready (rs := [10]) (by kernel_rfl) (by simp) ?_
  refine AllReadyH.cons (o := { dst := some 34, op := Go.Op.lookup 87 (Go.Operand.tmp 32) (Go.Operand.tmp 33) false, type := 86, pos := "disk.go:73", after := #[{ on := 8, ground := Go.Ground.data }, { on := 9, ground := Go.Ground.data }], guard := none }) rfl (fun K hK => ?_) AllReadyH.nil
  go_simp
  refine hK.out _ (w2.alloc (.cells cb.toArray 91)).drew HSA.out (fun hHeld => ?_)
  clear hK K
  (try simp only [Act.put, List.setIfInBounds_toArray, List.set_cons_zero, List.set_cons_succ])
  refine wpAnyH_ready (rs := [15]) (by kernel_rfl) (by simp) ?_
  refine AllReadyH.cons (o := { dst := some 39, op := Go.Op.call { callee := Go.Callee.builtin Go.Builtin.append, args := #[Go.Operand.tmp 34, Go.Operand.tmp 38], argTypes := #[86, 86] }, type := 86, pos := "disk.go:73", after := #[{ on := 10, ground := Go.Ground.data }, { on := 14, ground := Go.Ground.data }], guard := none }) rfl (fun K hK => ?_) AllReadyH.nil
  (refine Kd.R_append_step sec (w0 := w2.drew) (W := w2.drew) base (by rfl) (.tmp 34) (.tmp 38) 86 91 (.agg (Array.replicate 512 (.int .u8 0))) 512 (by rfl) Try.underlying86 info91 (by simp [sec, Value.cells]) (by decide) (by decide) (f i) (s.W i) b cb (fun x => (f i).ownBlock = some x ∨ w2.drew.heap.size ≤ x) (fun _ => False) (by rfl) (by rfl) HSC.out (fun _ h => h.elim) (fun _ h => .inr h) (Kd.R_mono (HD.out.rows i HI.out) (fun _ h => .inl h)) (Below.refl _ _) (by have := HD.out.gb; have := blk_lt HD.out.hd; omega) (by have h3 : (s.W i).length ≤ s.c := HD.out.wl i HI.out; have := HC.out; omega) ?_)
  intro v1 w3 ho hb hg hat
  obtain ⟨w4, hrun, hown, hgr⟩ := (HD.out.mp.kept hg (fun e => (HD.out.rowg HI.out e.symm).2.1 rfl)).update keyed Try.underlying87 (by have := HD.out.kc; have h2 : k ≤ s.c := this; have := HC.out; unfold maxLen; omega) (key_int (i : Int) (by have := HI.out; omega)) (show asIs v1 = some (.held v1, []) from rfl)
  have HO := Aside0.mk (And.intro ho (And.intro hg (And.intro hat (And.intro hown hgr))))
  have HSB := Aside0.mk (HS.out w3 ((Chg.of_below (below_drew1 (Below.refl _ _))).trans (Chg.of_grown hg (fun k hk => .inr hk)) (fun _ h => .inl h)))
  have HSE := Aside0.mk (HS.out w4 (((Chg.of_below (below_drew1 (Below.refl _ _))).trans (Chg.of_grown hg (fun k hk => .inr hk)) (fun _ h => .inl h)).trans (Chg.of_grown hgr (fun k hk => .inl (Option.some.inj hk).symm)) (fun _ h => .inl h)))
  clear ho hb hg hat hown hgr
  refine hK.out _ _ HSB.out (fun hHeld => ?_)
  clear hK K
  (try simp only [Act.put, List.setIfInBounds_toArray, List.set_cons_zero, List.set_cons_succ])
  refine wpAnyH_ready (rs := [16]) (by kernel_rfl) (by simp) ?_
  refine AllReadyH.cons (o := { dst := none, op := Go.Op.mapUpdate 87 (Go.Operand.tmp 27) (Go.Operand.tmp 28) (Go.Operand.tmp 39), type := 0, pos := "disk.go:73", after := #[{ on := 3, ground := Go.Ground.data }, { on := 4, ground := Go.Ground.data }, { on := 15, ground := Go.Ground.data }, { on := 15, ground := Go.Ground.chain }, { on := 0, ground := Go.Ground.phase }, { on := 1, ground := Go.Ground.phase }, { on := 2, ground := Go.Ground.phase }, { on := 3, ground := Go.Ground.phase }, { on := 4, ground := Go.Ground.phase }, { on := 5, ground := Go.Ground.phase }, { on := 6, ground := Go.Ground.phase }, { on := 7, ground := Go.Ground.phase }, { on := 8, ground := Go.Ground.phase }, { on := 9, ground := Go.Ground.phase }, { on := 10, ground := Go.Ground.phase }, { on := 11, ground := Go.Ground.phase }, { on := 12, ground := Go.Ground.phase }, { on := 13, ground := Go.Ground.phase }, { on := 14, ground := Go.Ground.phase }, { on := 15, ground := Go.Ground.phase }], guard := none }) rfl (fun K hK => ?_) AllReadyH.nil
  go_simp
  refine hK.out _ _ HSE.out (fun hHeld => ?_)
  clear hK K
  (try simp only [Act.put, List.setIfInBounds_toArray, List.set_cons_zero, List.set_cons_succ])
  refine wpAnyH_done (by kernel_rfl) ?_ _
  refine NoPanic.normal ?_
  go_wp2
  go_ret
  exact ⟨rfl, write_end HI.out HX.out HD.out HO.out⟩
end Go.Proofs.Ytddnhcnkjcdfgaa.M

namespace Go.Proofs.Ytddnhcnkjcdfgaa.M
open Go.RowKit Go.Maps Go.Proofs.YtddnhcnkjcdfgaaW.PrintWords Go.Proofs.YtddnhcnkjcdfgaaW.PrintLast Go.Proofs.YtddnhcnkjcdfgaaW.PrintMore
set_option linter.unusedVariables false
set_option linter.unusedSimpArgs false
def zA : Array Value := (nums .u8 zeros).toArray
theorem zA_size : zA.size = 512 := by unfold zA; rw [List.size_toArray, nums_length, zeros_len]
theorem size91 : (Try.prog.info? 91).map (·.size) = some 512 := by kernel_rfl
theorem zero91 (W : World) : (zeroValue 91).run Try.prog W = .ok (.agg zA) W := by
  obtain ⟨i, hi, hz, hsz, hby⟩ := info_parts info91
  have e : Value.agg zA = Value.agg (Array.replicate 512 (.int .u8 0)) := by unfold zA; rw [zeros_nums, Array.toArray_toList]
  rw [e]
  generalize Value.agg (Array.replicate 512 (.int .u8 0)) = zv at hz
  simp [zeroValue, typeInfo, Sem.run_bind, hi, hz]
theorem run_alloc91 (W : World) : (Instr.alloc 91 true (.tuple #[])).run Try.prog W = .ok (.pointer (some ⟨W.heap.size, 0, none⟩)) (W.alloc (.cells zA 91)) := by
  unfold Instr.alloc
  rw [Sem.run_bind, zero91]
  simp only [Result.andThen_ok]
  simp [newVar, newRow, Sem.run_bind, Value.cells]
theorem run_put91 (W : World) (c : Array Value) (c' : List Value) (hc : c.size = 512) (hc' : c'.length = 512) (h1 : ∀ v ∈ c', v.oneCell' = true) :
    (Instr.storeAt 91 (.pointer (some ⟨W.heap.size, 0, none⟩)) (.agg c'.toArray)).run Try.prog (W.alloc (.cells c 91)) = .ok () (W.alloc (.cells c'.toArray 91)) := by
  obtain ⟨i, hi, hz, hsz, hby⟩ := info_parts info91
  have h := run_storeCells_new (P := Try.prog) W 91 c c'.toArray (by rw [List.size_toArray, hc']; exact size91) (by simp [hc', hc]) (all_oneCell_toArray h1)
  simp only [List.toList_toArray] at h
  simp [Instr.storeAt, Instr.sureAddr, storeVar, sizeOf, typeInfo, hi, hsz, Value.cells, hc', h]
theorem slice91 (n : Nat) (W : World) : (Instr.sliceAt 91 (.pointer (some ⟨n, 0, none⟩)) none none none).run Try.prog W = .ok (.slice (some ⟨n, 0, none⟩) 512 512) W := by
  have ha : Try.prog.arrayLen 91 = 512 := by kernel_rfl
  have he : Try.prog.elem 91 = 5 := by kernel_rfl
  have hs : (sizeOf 5).run Try.prog W = .ok 1 W := by
    obtain ⟨i, hi, _, hsz, _⟩ := info_parts info5
    simp [sizeOf, typeInfo, hi, hsz]
  rw [run_sliceAt_array_all W 91 ⟨n, 0, none⟩ (by kernel_rfl), he, hs, ha]
  rfl
def DS.reads (s : DS) : DS := ⟨s.n, s.L, s.W, s.c, wrap64 (s.r + 1), s.wr, s.fl⟩
def DS.cur (s : DS) (i : Nat) : List Int := match (s.W i).getLast? with | some b => b | none => s.L.getD i []
theorem sec_at {w : World} {base b n c : Nat} {l : List (List Int)} (h : Rs w base (.slice (some ⟨b, 0, none⟩) n c) l) (i : Nat) (hi : i < n) :
    w.rangeAt b (i * 512) (nums .u8 (l.getD i [])) ∧ (l.getD i []).length = 512 ∧ w.there b (i * 512) 512 := by
  obtain ⟨cs, hl, hM, hc, hf⟩ := Kd.R_elem h [] (i : Int) (by omega) (by omega)
  rw [Int.toNat_natCast] at hM hc hf
  obtain ⟨h1, h2⟩ := hM
  refine ⟨fun j v hv => hc j v (by rw [h2]; exact hv), h1, fun j hj => ⟨?_, hf j⟩⟩
  have hj' : j < cs.length := by rw [hl]; exact hj
  have := hc j _ (List.getElem?_eq_getElem hj')
  show (w.cell? ⟨b, i * 512 + j, none⟩).isSome = true
  rw [show i * 512 + j = i * sec.sz + j from rfl, this]
  rfl
theorem nums_one (l : List Int) : ∀ v ∈ nums .u8 l, v.oneCell' = true := fun v hv => by obtain ⟨y, _, rfl⟩ := List.mem_map.1 hv; rfl
section
variable {ops : Array Oper} {rest : List Oper} {o : Oper} {a : Act} {Q : Exit → Act → World → Prop} {W : World}
theorem ld91 (x : Operand) (ho : o.op = .load 91 x) (hg : o.guard = none) (b off : Nat) (hx : a.eval x = .pointer (some ⟨b, off, none⟩)) (cs : List Value) (hl : cs.length = 512) (hr : W.rangeAt b off cs)
    (h : wpList Try.prog ops Q rest (a.put o.dst (.agg cs.toArray)) W) : wpList Try.prog ops Q (o :: rest) a W :=
  wpList_load_mid hg _ x ho b off hx cs _ hr Try.underlying91 rfl (by rw [hl]; exact size91) h
theorem al91 (ho : o.op = .alloc 91) (hg : o.guard = none) (n : Nat) (hn : W.heap.size = n)
    (h : wpList Try.prog ops Q rest (a.put o.dst (.pointer (some ⟨n, 0, none⟩))) (W.alloc (.cells zA 91))) : wpList Try.prog ops Q (o :: rest) a W := by
  subst hn
  refine Great.wpList_runTo hg _ rfl _ _ ?_ h
  unfold execOp
  rw [ho]
  simp only [Sem.run_bind, run_alloc91, Result.andThen_ok]
  rfl
theorem st91 (x y : Operand) (ho : o.op = .store 91 x y) (hg : o.guard = none) (hd : o.dst = none) (n : Nat) (hn : W.heap.size = n) (c : Array Value) (c' : List Value) (hc : c.size = 512) (hc' : c'.length = 512) (h1 : ∀ v ∈ c', v.oneCell' = true)
    (hx : a.eval x = .pointer (some ⟨n, 0, none⟩)) (hy : a.eval y = .agg c'.toArray)
    (h : wpList Try.prog ops Q rest a (W.alloc (.cells c'.toArray 91))) : wpList Try.prog ops Q (o :: rest) a (W.alloc (.cells c 91)) := by
  subst hn
  refine wpList_plain hg fun K hK => ?_
  unfold Oper.wp execOp
  rw [ho]
  simp only [hx, hy, Sem.run_bind, run_put91 W c c' hc hc' h1, Result.andThen_ok]
  show K (a.put o.dst undef) _
  rw [hd]
  exact hK _ _ h
end
theorem C_blk {W : World} {n ty : Nat} {l : List Int} (h : W.heap[n]? = some (.cells (nums .u8 l).toArray ty (0, 0))) (hl : l.length ≤ 9223372036854775807) : (Kd.int .u8).C W (some ⟨n, 0, none⟩) l.length l := by
  refine ⟨rfl, hl, fun _ => ⟨_, rfl, fun j p hp => ⟨[.int .u8 p], rfl, rfl, fun i u hu => ?_⟩⟩⟩
  match i, hu with
  | 0, hu =>
    have hu' : Value.int .u8 p = u := by simpa using hu
    subst hu'
    show W.cell? ((⟨n, 0, none⟩ : Addr).add (j * 1 + 0)) = _
    rw [Nat.mul_one, Nat.add_zero, Addr.add_mid, Nat.zero_add, blk_cell h]
    simp [nums, hp]
  | i + 1, hu => simp at hu
end Go.Proofs.Ytddnhcnkjcdfgaa.M

namespace Go.Proofs.Ytddnhcnkjcdfgaa.M
open Go.RowKit Go.Maps Go.Proofs.YtddnhcnkjcdfgaaW.PrintWords Go.Proofs.YtddnhcnkjcdfgaaW.PrintLast Go.Proofs.YtddnhcnkjcdfgaaW.PrintMore
set_option linter.unusedVariables false
set_option linter.unusedSimpArgs false
section
variable {w : World} {base g lb cp mb k : Nat} {s : DS} {f : Nat → Value} {D : DataW Value}
theorem cur_nil {i : Nat} (h : s.W i = []) : s.cur i = s.L.getD i [] := by unfold DS.cur; rw [h]; rfl
theorem cur_last {i : Nat} (h : s.W i ≠ []) : s.cur i = (s.W i).getD ((s.W i).length - 1) [] := by
  unfold DS.cur
  rw [List.getLast?_eq_getElem?, List.getD_eq_getElem?_getD]
  have : (s.W i).length - 1 < (s.W i).length := by
    have := List.length_pos_iff.2 h
    omega
  rw [List.getElem?_eq_getElem this, List.getD_eq_getElem?_getD, List.getElem?_eq_getElem this]
  rfl
end
theorem read_end {w w2 W w5 : World} {base g lb cp mb k : Nat} {s : DS} {f : Nat → Value} {D : DataW Value} {v : Value} {o : Obj} {l l' : List Int} (hx : Chg (fun x => x = g) w w2) (h : DkIn W base g s lb cp mb f k D) (hl : l' = l) (hW : W = w2.alloc o)
    (hr : Kd.R (Kd.int .u8) 5 w5 W.heap.size (fun _ => True) v l ∧ Below W.heap.size W w5) :
    ∃ v', Ending.returned (.tuple #[v, .int .i64 0]) = Ending.returned (.tuple #[v', .int .i64 0]) ∧ Kd.R (Kd.int .u8) 5 w5 w.heap.size (fun _ => True) v' l' ∧ DkIn w5 base g s lb cp mb f k D ∧ Chg (fun x => x = g) w w5 := by
  subst hl hW
  have hs : w2.heap.size ≤ (w2.alloc o).heap.size := by simp
  exact ⟨v, rfl, Kd.R_lower hr.1 (Nat.le_trans hx.size hs), h.chg (G := fun _ => False) (Chg.of_below hr.2) (fun _ _ => id), hx.trans (Chg.of_below (F := fun _ => False) (below_step (below_alloc (Below.refl _ _) o) hr.2)) (fun _ h => h.elim)⟩
set_option maxHeartbeats 1000000 in
set_option maxRecDepth 100000 in
theorem read_in (g i : Nat) (w : World) (base lb cp mb k : Nat) (f : Nat → Value) (D : DataW Value) (s : DS) (h : DkIn w base g s lb cp mb f k D) (hi : i < s.n) :
    Calls Try.prog 25 #[.pointer (some ⟨g, 0, none⟩), .int .i64 (i : Int)] w fun e w' => ∃ v, e = .returned (.tuple #[v, .int .i64 0]) ∧ Kd.R (Kd.int .u8) 5 w' w.heap.size (fun _ => True) v (s.cur i) ∧ DkIn w' base g s.reads lb cp mb f k D ∧ Chg (fun x => x = g) w w' := by
  have hn2 := h.n2
  have hnm := h.nm
  have hg0 : w.cell? ⟨g, 0, none⟩ = some (.slice (some ⟨lb, 0, none⟩) s.n cp) := blk_cell h.hd 0
  have hg2 : w.cell? ⟨g, 2, none⟩ = some (.int .i64 s.r) := blk_cell h.hd 2
  have hgf : w.frozen? ⟨g, 2, none⟩ = false := blk_frozen h.hd 2
  have Hout := Aside0.mk (show Calls Try.prog 41 #[.pointer (some ⟨g, 0, none⟩), .int .i64 (i : Int)] w fun e w' => e = .returned (.bool false) ∧ w' = w from by
    have h_ := outside_calls g (i : Int) s.n (some ⟨lb, 0, none⟩) cp w hg0
    rw [show (!decide (0 ≤ (i : Int) ∧ (i : Int) < (s.n : Int))) = false by simp; omega] at h_
    exact h_)
  have H1 := Aside0.mk (h.acts 2 (wrap64 (s.r + 1)) s.reads ⟨rfl, rfl, rfl, rfl⟩ rfl)
  have HX := Aside0.mk (Chg.setCell (F := fun x => x = g) (Chg.refl _ w) rfl 2 (.int .i64 (wrap64 (s.r + 1))))
  have HI := Aside0.mk hi
  have hi0 : (0 : Int) ≤ (i : Int) := by omega
  have hi1 : (i : Int) < (s.n : Int) := by omega
  clear h hi
  go_enter Try.func25, Try.ntmps25
  go_upto_region 4 with (go_at_call 41; (with_reducible refine Hout.out.mono ?_); rintro e w1 ⟨rfl, hw_⟩; subst hw_)
  clear hg0 hg2 hgf Hout
  generalize w1.setCell ⟨g, 2, none⟩ (.int .i64 (wrap64 (s.r + 1))) = w2 at H1 HX ⊢
  have hg0 : w2.cell? ⟨g, 0, none⟩ = some (.slice (some ⟨lb, 0, none⟩) s.n cp) := blk_cell H1.out.hd 0
  have hg1 : w2.cell? ⟨g, 1, none⟩ = some (.map (some mb)) := blk_cell H1.out.hd 1
  have HL := Aside0.mk (sec_at H1.out.la i HI.out)
  obtain ⟨bL, hbL⟩ : ∃ x, x = s.L.getD i [] := ⟨_, rfl⟩
  obtain ⟨hLr, hLl, _⟩ : w2.rangeAt lb (i * 512) (nums .u8 (s.L.getD i [])) ∧ (s.L.getD i []).length = 512 ∧ w2.there lb (i * 512) 512 := HL.out
  rw [← hbL] at hLr hLl
  have HbL := Aside0.mk hbL
  have HN := Aside0.mk nums_one
  go_upto_region 5 with (first
    | ((with_reducible refine gate_ (.load 91 (.tmp 25)) rfl ?_); refine ld91 (.tmp 25) rfl rfl lb (i * 512) rfl (nums .u8 bL) (by rw [nums_length, hLl]) hLr ?_)
    | ((with_reducible refine gate_ (.alloc 91) rfl ?_); refine al91 rfl rfl w2.heap.size rfl ?_)
    | ((with_reducible refine gate_ (.store 91 (.tmp 6) (.tmp 26)) rfl ?_); refine st91 (.tmp 6) (.tmp 26) rfl rfl rfl w2.heap.size rfl zA (nums .u8 bL) zA_size (by rw [nums_length, hLl]) (HN.out _) rfl rfl ?_))
  have hgl := blk_lt H1.out.hd
  obtain ⟨cb, hcb⟩ : ∃ x, x = nums .u8 bL := ⟨_, rfl⟩
  rw [← hcb]
  have HC := Aside0.mk hcb
  have hcbl : cb.length = 512 := by rw [hcb, nums_length, hLl]
  have H2 := Aside0.mk (H1.out.chg (w' := w2.alloc (.cells cb.toArray 91)) (G := fun _ => False) (Chg.of_below (below_alloc (Below.refl _ _) _)) (fun _ _ => id))
  have hg1' : (w2.alloc (.cells cb.toArray 91)).cell? ⟨g, 1, none⟩ = some (.map (some mb)) := blk_cell H2.out.hd 1
  obtain ⟨A7, c7, e7⟩ := Kd.R_slice (H2.out.rows i HI.out)
  have hlk : (Instr.lookup 87 (.map (some mb)) (.int .i64 (i : Int)) false).run Try.prog (w2.alloc (.cells cb.toArray 91)) = .ok (.slice A7 (s.W i).length c7) (w2.alloc (.cells cb.toArray 91)) := e7 ▸ H2.out.look i HI.out
  have HE := Aside0.mk e7
  clear hcb hLr hg0 hg1 e7
  have hsl := fun W => slice91 w2.heap.size W
  by_cases hW : s.W i = []
  · have hWl : (s.W i).length = 0 := by rw [hW]; rfl
    have HW := Aside0.mk hW
    rw [hWl] at hlk
    clear hW hWl
    have HCL := Aside0.mk (show Calls Try.prog 44 #[.slice (some ⟨w2.heap.size, 0, none⟩) 512 512] (w2.alloc (.cells cb.toArray 91)) fun e w' => ∃ v, e = .returned v ∧ Kd.R (Kd.int .u8) 5 w' (w2.alloc (.cells cb.toArray 91)).heap.size (fun _ => True) v bL ∧ Below (w2.alloc (.cells cb.toArray 91)).heap.size (w2.alloc (.cells cb.toArray 91)) w' from
      clone_calls ⟨w2.heap.size, 0, none⟩ 512 512 bL _ (hLl ▸ C_blk (by rw [HC.out]; exact blk_new w2 _) (by omega)) (by omega))
    go_wp2_with (go_at_call 44; (with_reducible refine HCL.out.mono ?_); rintro e w5 ⟨v, rfl, hr, hb⟩; have HR := Aside0.mk (And.intro hr hb); clear hr hb)
    go_ret2
    exact read_end HX.out H2.out (by rw [cur_nil HW.out, ← HbL.out]) rfl HR.out
  · have HW := Aside0.mk hW
    have hWl : 0 < (s.W i).length := List.length_pos_iff.2 hW
    have hWc : (s.W i).length ≤ 9223372036854775807 := (Kd.R_reads' (HE.out ▸ H2.out.rows i HI.out)).2.2.2.1
    obtain ⟨b7, c7', e8, _⟩ := Kd.R_form (H2.out.rows i HI.out) hWl
    obtain ⟨rfl, rfl⟩ : A7 = some ⟨b7, 0, none⟩ ∧ c7 = c7' := by rw [HE.out] at e8; cases e8; exact ⟨rfl, rfl⟩
    have hS7 := sec_at (HE.out ▸ H2.out.rows i HI.out : Rs _ base (.slice (some ⟨b7, 0, none⟩) (s.W i).length c7) (s.W i)) ((s.W i).length - 1) (by omega)
    rw [← cur_last hW] at hS7
    obtain ⟨hSr, hSl, _⟩ := hS7
    obtain ⟨bC, hbC⟩ : ∃ x, x = s.cur i := ⟨_, rfl⟩
    have HbC := Aside0.mk hbC
    rw [← hbC] at hSr hSl
    have HSr := Aside0.mk hSr
    generalize (s.W i).length = ln at *
    have HCL := Aside0.mk (show Calls Try.prog 44 #[.slice (some ⟨w2.heap.size, 0, none⟩) 512 512] (w2.alloc (.cells (nums .u8 bC).toArray 91)) fun e w' => ∃ v, e = .returned v ∧ Kd.R (Kd.int .u8) 5 w' (w2.alloc (.cells (nums .u8 bC).toArray 91)).heap.size (fun _ => True) v bC ∧ Below (w2.alloc (.cells (nums .u8 bC).toArray 91)).heap.size (w2.alloc (.cells (nums .u8 bC).toArray 91)) w' from
      clone_calls ⟨w2.heap.size, 0, none⟩ 512 512 bC _ (hSl ▸ C_blk (blk_new w2 _) (by omega)) (by omega))
    have H3 := Aside0.mk (H1.out.chg (w' := w2.alloc (.cells (nums .u8 bC).toArray 91)) (G := fun _ => False) (Chg.of_below (below_alloc (Below.refl _ _) _)) (fun _ _ => id))
    have hl0 : (0 : Int) < (ln : Int) := by omega
    have hl1 : (0 : Int) ≤ (ln : Int) - 1 := by omega
    have hl2 : (ln : Int) - 1 < (ln : Int) := by omega
    clear hW e8 hbC hSr
    go_wp2_with (first
      | ((with_reducible refine gate_ (.load 91 (.tmp 40)) rfl ?_); refine ld91 (.tmp 40) rfl rfl b7 ((ln - 1) * 512) rfl (nums .u8 bC) (by rw [nums_length, hSl]) HSr.out ?_)
      | ((with_reducible refine gate_ (.store 91 (.tmp 6) (.tmp 41)) rfl ?_); refine st91 (.tmp 6) (.tmp 41) rfl rfl rfl w2.heap.size rfl cb.toArray (nums .u8 bC) (by rw [List.size_toArray, hcbl]) (by rw [nums_length, hSl]) (HN.out _) rfl rfl ?_)
      | (go_at_call 44; (with_reducible refine HCL.out.mono ?_); rintro e w5 ⟨v, rfl, hr, hb⟩; have HR := Aside0.mk (And.intro hr hb); clear hr hb))
    go_ret2
    exact read_end HX.out H3.out HbC.out.symm rfl HR.out
end Go.Proofs.Ytddnhcnkjcdfgaa.M

namespace Go.Proofs.Ytddnhcnkjcdfgaa.M
open Go.RowKit Go.Maps Go.Proofs.YtddnhcnkjcdfgaaW.PrintWords Go.Proofs.YtddnhcnkjcdfgaaW.PrintLast Go.Proofs.YtddnhcnkjcdfgaaW.PrintMore
set_option linter.unusedVariables false
set_option linter.unusedSimpArgs false
abbrev KB : Kd (List Int) := Kd.slice 5 (Kd.int .u8)
theorem S_put {W0 W1 : World} {base g n c : Nat} {xs : List (List Int)} {v : Value} {x' : List Int} (h : Kd.S KB 28 W0 base (fun _ => True) (.slice (some ⟨g, 0, none⟩) n c) xs) (hb : Below W0.heap.size W0 W1) (i : Nat) (hi : i < n) (hr : Kd.R (Kd.int .u8) 5 W1 W0.heap.size (fun _ => True) v x') (hbase : base ≤ W0.heap.size) :
    Kd.S KB 28 (W1.setCell ⟨g, i, none⟩ v) base (fun _ => True) (.slice (some ⟨g, 0, none⟩) n c) (xs.set i x') := by
  obtain ⟨f, hf⟩ := Kd.S_old h hb
  have hg : g < W0.heap.size := Kd.S_lt h g rfl
  have h1 : (Kd.tag (fun k => if k < W0.heap.size then f k else i) KB).R 28 W1 base (fun k => True ∧ k < W0.heap.size) (.slice (some ⟨g, 0, none⟩) n c) xs.zipIdx := Kd.R_tag hf (fun k hk _ => if_pos hk.2)
  have h2 := Kd.R_mono h1 (ok' := fun _ => True) (fun _ _ => trivial)
  obtain ⟨c0, hl, hM, hc, hfz⟩ := Kd.R_elem h2 ([], 0) (i : Int) (by omega) (by omega)
  rw [Int.toNat_natCast] at hc
  have h3 := Kd.R_seg h2 (i : Int) (by omega) (by omega) (j := 0) (seg := [v]) hl (by rw [Int.toNat_natCast]; exact hc) (show 0 + 1 ≤ 1 by decide) (x' := (x', i)) (okp := fun k => W0.heap.size ≤ k) ?_ (fun k hk => ⟨trivial, by omega⟩)
  · obtain ⟨h3, _⟩ := h3
    rw [Int.toNat_natCast] at h3
    refine ⟨fun k => if k < W0.heap.size then f k else i, ?_⟩
    · rw [show (xs.set i x').zipIdx = xs.zipIdx.set i (x', i) by
        apply List.ext_getElem?
        intro q
        rw [List.getElem?_zipIdx, List.getElem?_set, List.getElem?_set, List.length_zipIdx]
        by_cases e : i = q
        · subst e
          rw [if_pos rfl, if_pos rfl]
          by_cases e2 : i < xs.length
          · rw [if_pos e2, if_pos e2]; simp
          · rw [if_neg e2, if_neg e2]; rfl
        · rw [if_neg e, if_neg e, List.getElem?_zipIdx]]
      have e : W1.setCells g (i * (Kd.tag (fun k => if k < W0.heap.size then f k else i) KB).sz + 0) [v] = W1.setCell ⟨g, i, none⟩ v := by
        show W1.setCell ⟨g, i * 1 + 0, none⟩ v = _
        rw [Nat.mul_one, Nat.add_zero]
      rw [e] at h3
      exact h3
  · have hl1 : c0.length = 1 := hl
    obtain ⟨u, rfl⟩ : ∃ u, c0 = [u] := by
      match c0, hl1 with
      | [u], _ => exact ⟨u, rfl⟩
    refine ⟨v, rfl, Kd.R_lower (Kd.R_mono (Kd.R_bound hr) (fun k hk => ⟨hk.2.1, ?_⟩)) hbase⟩
    show (if k < W0.heap.size then f k else i) = i
    rw [if_neg (by have := hk.2.1; omega)]
theorem take_set (L : List (List Int)) (i : Nat) (hi : i < L.length) : (L.take i ++ List.replicate (L.length - i) []).set i (L.getD i []) = L.take (i + 1) ++ List.replicate (L.length - (i + 1)) [] := by
  rw [List.set_append_right _ _ (by rw [List.length_take]; omega), List.length_take, Nat.min_eq_left (by omega), Nat.sub_self]
  obtain ⟨m, hm⟩ : ∃ m, L.length - i = m + 1 := ⟨L.length - i - 1, by omega⟩
  rw [hm, List.replicate_succ, List.set_cons_zero, show L.length - (i + 1) = m by omega, List.take_succ_eq_append_getElem hi, List.getD_eq_getElem?_getD, List.getElem?_eq_getElem hi]
  simp only [List.append_assoc, List.singleton_append, Option.getD_some]
theorem info28 : (Try.prog.info? 28).map (fun i => (i.zero, i.size, i.bytes)) = some (some (.slice none 0 0), 1, 24) := by kernel_rfl
set_option maxHeartbeats 1000000 in
set_option maxRecDepth 100000 in
theorem image_in (g : Nat) (w : World) (base lb cp mb k : Nat) (f : Nat → Value) (D : DataW Value) (s : DS) (h : DkIn w base g s lb cp mb f k D) :
    Calls Try.prog 26 #[.pointer (some ⟨g, 0, none⟩)] w fun e w' => ∃ go c, e = .returned (.slice (some ⟨go, 0, none⟩) s.n c) ∧ Kd.S KB 28 w' w.heap.size (fun _ => True) (.slice (some ⟨go, 0, none⟩) s.n c) s.L ∧ Below w.heap.size w w' := by
  have hn2 := h.n2
  have hnm := h.nm
  have hgl := blk_lt h.hd
  have hLn : s.L.length = s.n := (Kd.R_reads' h.la).1.symm
  have hg0 : w.cell? ⟨g, 0, none⟩ = some (.slice (some ⟨lb, 0, none⟩) s.n cp) := blk_cell h.hd 0
  have H := Aside0.mk h
  have HLN := Aside0.mk hLn
  have HL5 := Aside0.mk (fun x hx => h.la.each x hx)
  clear h hLn
  generalize hn : s.n = n at *
  have HN := Aside0.mk hn
  clear hn
  go_enter Try.func26, Try.ntmps26
  go_upto_region 2 with (at_make; refine Kd.S_make KB (w0 := w) w.heap.size 28 rfl (N := 11) rfl 37 (.tmp 10) (.tmp 10) rfl (n : Int) rfl rfl Try.underlying37 (.slice none 0 0) 24 info28 rfl (by decide) (by decide) [] (ok := fun _ => True) (okp := fun _ => True) ?mz (fun _ _ => trivial) trivial (by omega) ?ml (Below.refl _ _) (Nat.le_refl _) ?_; (case mz => exact ⟨_, rfl, Kd.R_nil _ _ _ _ _⟩); (case ml => omega); intro v11 w2 hr hb hg hat; rw [Int.toNat_natCast] at hr; obtain ⟨go, co, e11, hgo, _, _⟩ := Kd.S_form hr (by rw [List.length_replicate]; omega); rw [List.length_replicate] at e11; subst e11; have HR := Aside0.mk hr; have HB := Aside0.mk hb; have hg0' : w2.cell? ⟨g, 0, none⟩ = some (.slice (some ⟨lb, 0, none⟩) n cp) := (hb.cell hgl).trans hg0; clear hr hb hg hat hgo)
  go_wp2
  go_loopg [17] n (fun k v17 wr => ∃ (i : Nat), v17 = .int .i64 i ∧ Aside0 (i + k = n) ∧ Aside0 (Kd.S KB 28 wr w.heap.size (fun _ => True) (.slice (some ⟨go, 0, none⟩) n co) (s.L.take i ++ List.replicate (n - i) [])) ∧ Aside0 (Below w.heap.size w wr))
  case atStart => exact ⟨0, rfl, ⟨Nat.zero_add _⟩, ⟨by simpa using HR.out⟩, HB⟩
  case round =>
    clear HR HB hg0'
    obtain ⟨i, rfl, HI, HR, HB⟩ := hrel
    have hD := H.out.chg (G := fun _ => False) (Chg.of_below HB.out) (fun _ _ => id)
    by_cases hi : i < n
    · have hi1 : (i : Int) < (n : Int) := by omega
      have hi0 : (0 : Int) ≤ (i : Int) := by omega
      have HII := Aside0.mk hi
      obtain ⟨bL, hbL⟩ : ∃ x, x = s.L.getD i [] := ⟨_, rfl⟩
      have hS := sec_at hD.la i (by rw [HN.out]; exact hi)
      rw [← hbL] at hS
      have HS := Aside0.mk hS
      have HbL := Aside0.mk hbL
      have hiw : wrap64 ((i : Int) + 1) = ((i + 1 : Nat) : Int) := by unfold wrap64; omega
      clear hi hS hbL hD
      go_upto_region 5 with (first
        | ((with_reducible refine gate_ (.load 91 (.tmp 20)) rfl ?_); refine ld91 (.tmp 20) rfl rfl lb (i * 512) rfl (nums .u8 bL) (by rw [nums_length, HS.out.2.1]) HS.out.1 ?_)
        | ((with_reducible refine gate_ (.alloc 91) rfl ?_); refine al91 rfl rfl wr.heap.size rfl ?_)
        | ((with_reducible refine gate_ (.store 91 (.tmp 5) (.tmp 21)) rfl ?_); refine st91 (.tmp 5) (.tmp 21) rfl rfl rfl wr.heap.size rfl zA (nums .u8 bL) zA_size (by rw [nums_length, HS.out.2.1]) (nums_one _) rfl rfl ?_))
      have HR4 := Aside0.mk (Kd.S_alloc HR.out (.cells (nums .u8 bL).toArray 91))
      have HB4 := Aside0.mk (below_alloc HB.out (.cells (nums .u8 bL).toArray 91))
      have HCL := Aside0.mk (clone_calls ⟨wr.heap.size, 0, none⟩ 512 512 bL (wr.alloc (.cells (nums .u8 bL).toArray 91)) (HS.out.2.1 ▸ C_blk (blk_new wr _) (by rw [HS.out.2.1]; decide)) (by decide))
      have hsl := fun W => slice91 wr.heap.size W
      clear HS
      generalize wr.alloc (.cells (nums .u8 bL).toArray 91) = w4 at HR4 HB4 HCL ⊢
      generalize wr.heap.size = ns at HCL hsl ⊢
      have HF := Aside0.mk (fun (W : World) (hb : Below w4.heap.size w4 W) => (show (∃ u, W.cell? ⟨go, i, none⟩ = some u) ∧ W.frozen? ⟨go, i, none⟩ = false from by
        obtain ⟨c, hl, _, hc, hf⟩ := Kd.R_elem (Kd.S_R (Kd.S_below HR4.out hb)) [] (i : Int) (by omega) (by have := HII.out; omega)
        rw [Int.toNat_natCast] at hc hf
        have hl1 : c.length = 1 := hl
        obtain ⟨u, rfl⟩ : ∃ u, c = [u] := by
          match c, hl1 with
          | [u], _ => exact ⟨u, rfl⟩
        have h1 := hc 0 u rfl
        have h2 := hf 0
        have e : i * KB.sz + 0 = i := Nat.mul_one i
        rw [e] at h1 h2
        exact ⟨⟨u, h1⟩, h2⟩))
      go_wp2_with (go_at_call 44; (with_reducible refine HCL.out.mono ?_); rintro e w5 ⟨v, rfl, hr, hb⟩; obtain ⟨A9, c9, e9⟩ := Kd.R_slice hr; subst e9; obtain ⟨⟨u, hu⟩, hf⟩ := HF.out w5 hb; have H5 := Aside0.mk (And.intro hr hb); clear hr hb)
      go_roundg (gk - 1)
      case measure => (have := HI.out; have := HII.out; omega)
      case rel =>
        have hp := S_put HR4.out H5.out.2 i HII.out H5.out.1 HB4.out.size
        have hbg := (below_step HB4.out H5.out.2).setCell (p := ⟨go, i, none⟩) (Kd.S_base HR4.out go rfl) (.slice A9 bL.length c9)
        have ht := take_set s.L i (by rw [HLN.out]; exact HII.out)
        rw [HLN.out, ← HbL.out] at ht
        rw [ht] at hp
        exact ⟨i + 1, by first | rfl | rw [hiw], ⟨by have := HI.out; have := HII.out; omega⟩, ⟨hp⟩, ⟨hbg⟩⟩
    · have hi1 : ¬ ((i : Int) < (n : Int)) := by omega
      have hin : i = n := by have := HI.out; omega
      subst hin
      clear hi
      go_wp2
      go_ret
      refine ⟨go, co, rfl, ?_, HB.out⟩
      have h1 := HR.out
      rw [Nat.sub_self, List.replicate_zero, List.append_nil, List.take_of_length_le (by rw [HLN.out]; exact Nat.le_refl _)] at h1
      exact h1
end Go.Proofs.Ytddnhcnkjcdfgaa.M

namespace Go.Proofs.Ytddnhcnkjcdfgaa.M
open Go.RowKit Go.Maps Go.Proofs.YtddnhcnkjcdfgaaW.PrintWords Go.Proofs.YtddnhcnkjcdfgaaW.PrintLast Go.Proofs.YtddnhcnkjcdfgaaW.PrintMore
set_option linter.unusedVariables false
set_option linter.unusedSimpArgs false
open Go.ChangeMaps (setBlock)
def DS.flush (s : DS) : DS := ⟨s.n, (List.range s.n).map s.cur, fun _ => [], 0, s.r, s.wr, wrap64 (s.fl + 1)⟩
section
variable {w w' : World} {base g lb cp mb k : Nat} {F G : Nat → Prop} {s : DS} {f : Nat → Value} {D : DataW Value}
theorem DkIn.putL (h : DkIn w base g s lb cp mb f k D) (i : Nat) (hi : i < s.n) (b : List Int) (hb : b.length = 512) :
    DkIn (w.setCells lb (i * 512) (nums .u8 b)) base g ⟨s.n, s.L.set i b, s.W, s.c, s.r, s.wr, s.fl⟩ lb cp mb f k D ∧ w.grownBy (w.setCells lb (i * 512) (nums .u8 b)) (some lb) := by
  obtain ⟨c0, hl, hM, hc, hf⟩ := Kd.R_elem h.la [] (i : Int) (by omega) (by omega)
  have h3 := Kd.R_seg h.la (i : Int) (by omega) (by omega) (j := 0) (seg := nums .u8 b) hl hc (by show 0 + _ ≤ 512; rw [nums_length, hb]; decide) (x' := b) (okp := fun _ => False) ?_ (fun _ h => h.elim)
  · obtain ⟨h3, h4⟩ := h3
    rw [Int.toNat_natCast] at h3 h4
    have e : i * sec.sz + 0 = i * 512 := Nat.add_zero (i * 512)
    rw [e] at h3 h4
    have far := h4
    refine ⟨⟨blk_grown h.hd h4 (by have := h.lbg; simpa using this.symm), Rs.of h3, h.mp.kept h4 (by have := h.mbl; simpa using this), h.kc, h.at_, h.ks, fun j hj => (h.rows j hj).step (fun q hq hlt => h4.block q hlt (by have := (h.rowg hj hq).2.2; simpa using this)), h.wl, h.sep, h.sepl, h.gb, h.mbb, h.n2, h.nm⟩, h4⟩
  · refine ⟨hb, ?_⟩
    have hl' : c0.length = 512 := hl
    rw [List.take_zero, List.nil_append, List.drop_of_length_le (by rw [hl', nums_length, hb]; decide), List.append_nil]
theorem run_clear (hb : ∃ es ck, w.heap[mb]? = some (.map es ck)) (ty : TypeId) : ∃ ck, (Builtin.clear_ #[87] ty #[.map (some mb)]).run Try.prog w = .ok (.tuple #[]) (setBlock w mb (.map #[] ck)) := by
  obtain ⟨es, ck, hb⟩ := hb
  refine ⟨ck, ?_⟩
  simp [Builtin.clear_, run_underlying Try.underlying87, MapKept.run_getObj_map hb, MapKept.run_setObj_map _ hb, Result.andThen, setBlock]
theorem DkIn.clear (h : DkIn w base g s lb cp mb f k D) (ck : Nat) : DkIn (setBlock w mb (.map #[] ck)) base g ⟨s.n, s.L, fun _ => [], 0, s.r, s.wr, s.fl⟩ lb cp mb (fun _ => .slice none 0 0) 0 (.map []) ∧ Chg (fun x => x = mb) w (setBlock w mb (.map #[] ck)) := by
  obtain ⟨es, ck0, hb, r⟩ := h.mp
  have far : ∀ b, b ≠ mb → (setBlock w mb (.map #[] ck)).heap[b]? = w.heap[b]? := fun b hne => Go.ChangeMaps.heap_setBlock_other hb _ hne
  refine ⟨⟨(far g (fun e => h.mbg e.symm)).trans h.hd, h.la.step (fun b hb2 _ => far b (by cases hb2; exact fun e => h.mbl e.symm)), ⟨#[], ck, Go.ChangeMaps.heap_setBlock_same hb _, ⟨by simp, MapKept.stamped_empty ck, by simp⟩, Nat.le_refl _, rfl⟩, Nat.le_refl _, fun i _ => rfl, fun kl h => by simp [Maps.has] at h, fun i _ => ⟨fun k hk => by simp [Value.ownBlock] at hk, OwnRow.none_ _ _ _ _ _⟩, fun i _ => Nat.le_refl _, fun i j b _ _ h => by simp [Value.ownBlock] at h, fun i _ => by simp [Value.ownBlock], h.gb, h.mbb, h.n2, h.nm⟩, ⟨rfl, rfl, rfl, by simp [setBlock], fun b hlt hne => far b hne⟩⟩
end
end Go.Proofs.Ytddnhcnkjcdfgaa.M

namespace Go.Proofs.Ytddnhcnkjcdfgaa.M
open Go.RowKit Go.Maps Go.Proofs.YtddnhcnkjcdfgaaW.PrintWords Go.Proofs.YtddnhcnkjcdfgaaW.PrintLast Go.Proofs.YtddnhcnkjcdfgaaW.PrintMore
set_option linter.unusedVariables false
set_option linter.unusedSimpArgs false
open Go.ChangeMaps (setBlock)
def Half (s : DS) (left : Lit → Bool) (L : List (List Int)) : Prop := L.length = s.n ∧ ∀ j, j < s.n → L.getD j [] = if s.W j ≠ [] ∧ left (.int .i64 (j : Int)) = false then s.cur j else s.L.getD j []
theorem Half.step {s : DS} {left : Lit → Bool} {L : List (List Int)} (h : Half s left L) (i : Nat) (hi : i < s.n) (hW : s.W i ≠ []) : Half s (fun z => left z && !z.sameKey (.int .i64 (i : Int))) (L.set i (s.cur i)) := by
  refine ⟨by rw [List.length_set]; exact h.1, fun j hj => ?_⟩
  by_cases e : j = i
  · subst e
    have : (Lit.int .i64 (j : Int)).sameKey (.int .i64 (j : Int)) = true := WideAt.sameKey_self trivial
    rw [if_pos ⟨hW, by simp [this]⟩, List.getD_eq_getElem?_getD, List.getElem?_set_self (by rw [h.1]; exact hj)]
    rfl
  · have hne : (Lit.int .i64 (j : Int)).sameKey (.int .i64 (i : Int)) = false := Maps.sameKey_ne (fun e2 => e (by injection e2 with _ e2; omega))
    rw [List.getD_eq_getElem?_getD, List.getElem?_set_ne (Ne.symm e), ← List.getD_eq_getElem?_getD, h.2 j hj]
    simp [hne]
theorem Half.done {s : DS} {left : Lit → Bool} {L : List (List Int)} (h : Half s left L) (hl : ∀ kl, left kl = false) : L = (List.range s.n).map s.cur := by
  apply List.ext_getElem?
  intro j
  by_cases hj : j < s.n
  · have h1 := h.2 j hj
    rw [List.getElem?_map, List.getElem?_range hj, List.getElem?_eq_getElem (by rw [h.1]; exact hj)]
    rw [List.getD_eq_getElem?_getD, List.getElem?_eq_getElem (by rw [h.1]; exact hj)] at h1
    show some _ = some _
    congr 1
    have h1 : L[j]'(by rw [h.1]; exact hj) = _ := h1
    rw [h1]
    by_cases hW : s.W j = []
    · rw [if_neg (fun e => e.1 hW), cur_nil hW]
    · rw [if_pos ⟨hW, hl _⟩]
  · rw [List.getElem?_eq_none (by rw [h.1]; omega), List.getElem?_eq_none (by simp; omega)]
theorem Half.start {w : World} {base g lb cp mb k : Nat} {s : DS} {f : Nat → Value} {D : DataW Value} (h : DkIn w base g s lb cp mb f k D) : Half s (Maps.has D) s.L := by
  refine ⟨(Kd.R_reads' h.la).1.symm, fun j hj => ?_⟩
  rw [if_neg]
  rintro ⟨h1, h2⟩
  have h3 := h.at_ j hj
  rw [Maps.atKey_of_not_has h2] at h3
  have h4 : f j = .slice none 0 0 := (DataW.held.inj h3).symm
  have h5 := h.rows j hj
  rw [h4] at h5
  have h6 := (Kd.R_reads' h5).1
  exact h1 (List.length_eq_zero_iff.1 h6.symm)
theorem DkIn.iter {w : World} {base g lb cp mb k r n : Nat} {s : DS} {f : Nat → Value} {D D' : DataW Value} {left : Lit → Bool} {cnt : Nat} (h : DkIn w base g s lb cp mb f k D) (hr : w.ranges Try.prog 3 asIs mb r n D' left cnt) : ¬ Fp g lb mb f s.n r := by
  have hne := hr.ne
  obtain ⟨es, clock, since, seen, c0, _, _, _, _, hb, _⟩ := hr
  rintro (e | e | e | ⟨i, hi, e⟩)
  · rw [e, h.hd] at hb; cases hb
  · obtain ⟨cs, hc⟩ := (h.la.typed rfl).2.2
    rw [e, hc] at hb; cases hb
  · exact hne e
  · obtain ⟨cs, hc⟩ := ((h.rows i hi).typed e).2.2
    rw [hc] at hb; cases hb
set_option maxHeartbeats 1000000 in
set_option maxRecDepth 100000 in
theorem flush_in (g : Nat) (w : World) (base lb cp mb k : Nat) (f : Nat → Value) (D : DataW Value) (s : DS) (h : DkIn w base g s lb cp mb f k D) :
    Calls Try.prog 17 #[.pointer (some ⟨g, 0, none⟩)] w fun e w' => (∃ v, e = .returned v) ∧ DkIn w' base g s.flush lb cp mb (fun _ => .slice none 0 0) 0 (.map []) ∧ Chg (fun x => x = g ∨ x = lb ∨ x = mb) w w' := by
  have hn2 := h.n2
  have hnm := h.nm
  have hg4 : w.cell? ⟨g, 4, none⟩ = some (.int .i64 s.fl) := blk_cell h.hd 4
  have hgf : w.frozen? ⟨g, 4, none⟩ = false := blk_frozen h.hd 4
  have H1 := Aside0.mk (h.acts 4 (wrap64 (s.fl + 1)) ⟨s.n, s.L, s.W, s.c, s.r, s.wr, wrap64 (s.fl + 1)⟩ ⟨rfl, rfl, rfl, rfl⟩ rfl)
  have HX := Aside0.mk (Chg.setCell (F := fun x => x = g ∨ x = lb ∨ x = mb) (Chg.refl _ w) (.inl rfl) 4 (.int .i64 (wrap64 (s.fl + 1))))
  clear h
  go_enter Try.func17, Try.ntmps17
  go_upto_region 1 with (fail)
  clear hg4 hgf
  generalize w.setCell ⟨g, 4, none⟩ (.int .i64 (wrap64 (s.fl + 1))) = w2 at H1 HX ⊢
  have hg1 : w2.cell? ⟨g, 1, none⟩ = some (.map (some mb)) := blk_cell H1.out.hd 1
  have HH := Aside0.mk (Half.start H1.out)
  go_wp2_with (at_range; refine wpList_range_own _ rfl _ 87 rfl 3 86 keyed Try.underlying87 asIs mb k D rfl H1.out.mp ?_; intro w3 hrg hgr hsz)
  have HR0 := Aside0.mk hrg
  have HD0 := Aside0.mk (H1.out.chg (G := fun _ => False) (Chg.of_grown hgr (fun _ h => by cases h)) (fun _ _ => id))
  have HX0 := Aside0.mk (HX.out.trans (Chg.of_grown (F := fun _ => False) hgr (fun _ h => by cases h)) (fun _ h => h.elim))
  have HRF := Aside0.mk HX.out.size
  clear hrg hgr hsz hg1
  generalize w2.heap.size = r at HR0 HRF ⊢
  go_loopg [] (Maps.size D) (fun q wr => ∃ (L : List (List Int)) (left : Lit → Bool), Aside0 (wr.ranges Try.prog 3 asIs mb r k D left q) ∧ Aside0 (DkIn wr base g ⟨s.n, L, s.W, s.c, s.r, s.wr, wrap64 (s.fl + 1)⟩ lb cp mb f k D) ∧ Aside0 (Half s left L) ∧ Aside0 (Chg (fun x => x = g ∨ x = lb ∨ x = mb) w wr))
  case atStart => exact ⟨s.L, _, HR0, HD0, ⟨HH.out⟩, HX0⟩
  case round =>
    clear HR0 HD0 HX0 HH
    obtain ⟨L, left, HR, HD, HF, HX1⟩ := hrel
    rcases HR.out.next keyed 0 with ⟨hc0, hl0, hrun⟩ | ⟨key, v, kl, y, w4, cnt, hkey, hlk, hv, hat, hrun, hrg, hlt, hgr, hsz, hen⟩
    · have hLd := HF.out.done hl0
      have hg1 : wr.cell? ⟨g, 1, none⟩ = some (.map (some mb)) := blk_cell HD.out.hd 1
      obtain ⟨ck, hclr⟩ := run_clear (by obtain ⟨es, ck, hb, _⟩ := HD.out.mp; exact ⟨es, ck, hb⟩) 0
      have HE := Aside0.mk (HD.out.clear ck)
      go_wp2
      refine bodyPost_end (results_none rfl _ _ _) rfl ?_
      refine ⟨⟨_, rfl⟩, ?_, HX1.out.trans HE.out.2 (fun x h => .inl (.inr (.inr h)))⟩
      have h1 := HE.out.1
      rw [hLd] at h1
      exact h1
    · obtain ⟨i, hi, rfl, hW⟩ := HD.out.ks kl (Maps.has_true_of_atKey hat)
      have hvf : v = f i := by
        have h1 := HD.out.at_ i hi
        rw [hat] at h1
        have h2 : some (DataW.held v, ([] : List MemPlace)) = some y := hv
        have h3 := congrArg Prod.fst (Option.some.inj h2)
        exact DataW.held.inj (h3.trans h1)
      subst hvf
      obtain ⟨x, rfl, hx, _⟩ := Maps.keyOf_int_inv Try.underlying3 hkey
      obtain rfl : x = (i : Int) := by injection hx with _ hx; exact hx.symm
      have hW : s.W i ≠ [] := hW
      have hi : i < s.n := hi
      have hit := HD.out.iter HR.out
      have HD4 := Aside0.mk (HD.out.chg (G := fun x => x = r) (Chg.of_grown hgr (fun x hx => (Option.some.inj hx).symm)) (fun x hx e => hit (e ▸ hx)))
      have hWl : 0 < (s.W i).length := List.length_pos_iff.2 hW
      have hrow := HD4.out.rows i hi
      have hWc : (s.W i).length ≤ 9223372036854775807 := by
        obtain ⟨A7, c7, e7⟩ := Kd.R_slice hrow
        exact (Kd.R_reads' (e7 ▸ hrow)).2.2.2.1
      obtain ⟨b7, c7, e7, _⟩ := Kd.R_form hrow hWl
      rw [e7] at hrow hrun hen
      have hS7 := sec_at hrow ((s.W i).length - 1) (show (s.W i).length - 1 < (s.W i).length by omega)
      have hcur : (s.W i).getD ((s.W i).length - 1) [] = s.cur i := (cur_last hW).symm
      have hS7' : w4.rangeAt b7 (((s.W i).length - 1) * 512) (nums .u8 (s.cur i)) ∧ (s.cur i).length = 512 := by
        rw [← hcur]; exact ⟨hS7.1, hS7.2.1⟩
      have HST := Aside0.mk (And.intro hi hW)
      have HIT := Aside0.mk hit
      have hth : w4.there lb (i * 512) 512 := (sec_at HD4.out.la i hi).2.2
      have hg0 : w4.cell? ⟨g, 0, none⟩ = some (.slice (some ⟨lb, 0, none⟩) s.n cp) := blk_cell HD4.out.hd 0
      have HRG := Aside0.mk hrg
      have HLT := Aside0.mk hlt
      have HX4 := Aside0.mk (HX1.out.trans (Chg.of_grown (F := fun x => x = r) hgr (fun x hx => (Option.some.inj hx).symm)) (fun x hx => .inr (by subst hx; exact HRF.out)))
      have hi0 : (0 : Int) ≤ (i : Int) := by omega
      have hi1 : (i : Int) < (s.n : Int) := by omega
      have hneb : b7 ≠ lb := by
        have h1 := HD4.out.rowg (b := b7) hi (by rw [e7]; rfl)
        exact h1.2.2
      have hlbg : lb ≠ g := HD4.out.lbg
      have Hcl := Aside0.mk hS7'.2
      obtain ⟨bC, hbC⟩ : ∃ x, x = s.cur i := ⟨_, rfl⟩
      have HbC := Aside0.mk hbC
      rw [← hbC] at hS7'
      obtain ⟨hSr, hSl⟩ := hS7'
      generalize (s.W i).length = ln at *
      have hl1 : (0 : Int) ≤ (ln : Int) - 1 := by omega
      have hl2 : (ln : Int) - 1 < (ln : Int) := by omega
      have hcl : (nums .u8 bC).length = 512 := by rw [nums_length, hSl]
      have hnb := nums_one bC
      have hu91 := Try.underlying91
      have hi91 : (Try.prog.info? 91).map (·.size) = some (nums .u8 bC).length := by rw [hcl]; exact size91
      have HSl := Aside0.mk hSl
      generalize hcb : nums .u8 bC = cb at *
      have HCB := Aside0.mk hcb
      clear hcb hit hrow e7 hS7 hcur hW hi hrg hlt hsz hgr hbC hlk hat hv hkey hx HD HR hSl
      have hlw : IntKind.i64.wrap ((ln : Int) - 1) = (ln : Int) - 1 := IntWalk.i64_in _ (by omega)
      have hlt0 : ((ln : Int) - 1).toNat = ln - 1 := by omega
      have hix : ∀ W : World, (Instr.indexAt 86 (.slice (some ⟨b7, 0, none⟩) ln c7) (.int .i64 ((ln : Int) - 1))).run Try.prog W = .ok (.pointer (some ⟨b7, (ln - 1) * 512, none⟩)) W := fun W => by go_simp; intro h; exact absurd h (by omega)
      go_wp2
      go_region_held3 (fun W => W.cell? ⟨g, 0, none⟩ = some (.slice (some ⟨lb, 0, none⟩) s.n cp) ∧ W.rangeAt b7 ((ln - 1) * 512) cb ∧ W.there lb (i * 512) 512) (first | assumption | (simp only [World.cell?_drew]; exact ⟨hg0, hSr, hth⟩) | exact ⟨(World.cell?_setCells_out lb cb _ _ _ (fun e => absurd e.symm hlbg)).trans hg0, World.rangeAt_setCells_apart (w := w4.drew) hSr lb _ cb (.inl hneb), World.there_setCells (w := w4.drew) hth lb _ cb⟩ | fail) (fail)
      have HP := (HD4.out.chg (G := fun _ => False) (w' := w4.drew) ⟨rfl, rfl, rfl, Nat.le_refl _, fun _ _ _ => rfl⟩ (fun _ _ => id)).putL i HST.out.1 (s.cur i) Hcl.out
      rw [← HbC.out, HCB.out] at HP
      have HR6 := Aside0.mk ((HRG.out.kept (row := none) (w' := w4.drew) ⟨rfl, rfl, rfl, Nat.le_refl _, fun _ _ _ => rfl⟩ (by simp) (by simp)).kept HP.2 (by have := HD4.out.mbl; simpa using this) (by have := HIT.out; simpa using fun e => this (.inr (.inl e))))
      have HD6 := Aside0.mk HP.1
      have HF6 := Aside0.mk (HF.out.step i HST.out.1 HST.out.2)
      have HX6 := Aside0.mk ((HX4.out.trans (b := w4) (c := w4.drew) (G := fun _ => False) ⟨rfl, rfl, rfl, Nat.le_refl _, fun _ _ _ => rfl⟩ (fun _ h => h.elim)).trans (Chg.of_grown (F := fun x => x = lb) HP.2 (fun x hx => (Option.some.inj hx).symm)) (fun x hx => .inl (.inr (.inl hx))))
      rw [HbC.out] at HD6
      clear HP hSr hth hg0 hix
      generalize w4.drew.setCells lb (i * 512) cb = w5 at HR6 HD6 HX6 ⊢
      go_wp2
      go_roundg cnt
      case rel => exact ⟨_, _, HR6, HD6, HF6, HX6⟩
      case measure => exact HLT.out
end Go.Proofs.Ytddnhcnkjcdfgaa.M

namespace Go.Proofs.Ytddnhcnkjcdfgaa.P
open Go.RowKit Go.Proofs.YtddnhcnkjcdfgaaW.PrintWords Go.Proofs.YtddnhcnkjcdfgaaW.PrintLast Go.Proofs.YtddnhcnkjcdfgaaW.PrintMore
attribute [local go_sem] max2_int min2_int max_two min_two max_three min_three max_four min_four   -- for this text's walks alone
set_option linter.unusedVariables false
set_option linter.unusedSimpArgs false
def errW : Option Int → Value
  | none => .nilIface
  | some c => .iface 0 (.int .i64 c)
theorem errW_none : errW none = .nilIface := rfl
theorem errW_some (c : Int) : errW (some c) = .iface 0 (.int .i64 c) := rfl
theorem info5 : (Try.prog.info? 5).map (fun i => (i.zero, i.size, i.bytes)) = some (some (.int .u8 0), 1, 1) := by kernel_rfl
structure S30 where
  f0 : Int
  f1 : (List Int)
def z30 : S30 := ⟨(0 : Int), ([] : List Int)⟩
def k30 : Kd S30 := Kd.iso (Kd.pair (Kd.int .i64) (Kd.slice 5 (Kd.int .u8))) (fun x : S30 => (x.f0, x.f1))
theorem k30_heap : Kd.Heap k30 := Kd.heap_iso _ (Kd.heap_pair (Kd.heap_int .i64) (Kd.heap_slice 5 (Kd.heap_int .u8)))
theorem k30_open {w : World} {x : S30} {cs : List Value} (h : k30.K w x cs) : ∃ A1 c1, cs = [.int .i64 x.f0, .slice A1 x.f1.length c1] ∧ x.f1.length ≤ c1 ∧ (Kd.int .u8).C w A1 x.f1.length x.f1 := by
  obtain ⟨_, _, rfl, rfl, ⟨A1, c1, rfl, l1, g1⟩⟩ := h
  exact ⟨A1, c1, rfl, l1, g1⟩
theorem k30_openM {w : World} {base : Nat} {ok : Nat → Prop} {x : S30} {cs : List Value} (h : k30.M w base ok x cs) : ∃ v1, cs = [.int .i64 x.f0, v1] ∧ (Kd.int .u8).R 5 w base ok v1 x.f1 := by
  obtain ⟨_, _, rfl, rfl, ⟨v1, rfl, g1⟩⟩ := h
  exact ⟨v1, rfl, g1⟩
theorem k30_mk (w : World) (x : S30) {A1 : Option Addr} {c1 : Nat} (l1 : x.f1.length ≤ c1) (g1 : (Kd.int .u8).C w A1 x.f1.length x.f1) : k30.K w x [.int .i64 x.f0, .slice A1 x.f1.length c1] := ⟨[.int .i64 x.f0], [.slice A1 x.f1.length c1], rfl, rfl, ⟨A1, c1, rfl, l1, g1⟩⟩
theorem k30_mkM (w : World) (base : Nat) (ok : Nat → Prop) (x : S30) {v1 : Value} (g1 : (Kd.int .u8).R 5 w base ok v1 x.f1) : k30.M w base ok x [.int .i64 x.f0, v1] := ⟨[.int .i64 x.f0], [v1], rfl, rfl, ⟨v1, rfl, g1⟩⟩
theorem k30_openF {W : World} {ok : Nat → Prop} {x : S30} {cs : List Value} (h : Kd.FK k30 W ok x cs) : ∃ A1 c1, cs = [.int .i64 x.f0, .slice A1 x.f1.length c1] ∧ x.f1.length ≤ c1 ∧ Kd.F (Kd.int .u8) W ok A1 x.f1.length x.f1 := by
  obtain ⟨A1, c1, rfl, l1, _⟩ := k30_open (Kd.FK_now h)
  exact ⟨A1, c1, rfl, l1, (fun W' hW => by obtain ⟨A1_, c1_, he, l1_, g1_⟩ := k30_open (h W' hW); injection (Option.some.inj (show some (Value.slice A1 x.f1.length c1) = some (Value.slice A1_ x.f1.length c1_) from congrArg (fun l => l[1]?) he)) with ha_ _ _; rw [ha_]; exact g1_)⟩
theorem k30_mkF (W : World) (ok : Nat → Prop) (x : S30) {A1 : Option Addr} {c1 : Nat} (l1 : x.f1.length ≤ c1) (g1 : Kd.F (Kd.int .u8) W ok A1 x.f1.length x.f1) : Kd.FK k30 W ok x [.int .i64 x.f0, .slice A1 x.f1.length c1] := fun W2 hW => k30_mk W2 x l1 (g1 W2 hW)
def rd_T30 (xs : List S30) (i : Int) : S30 := xs.getD i.toNat z30
theorem at_T30 {w : World} {A : Option Addr} {n : Nat} {xs : List S30} (h : Kd.C k30 w A n xs) (i : Int) (h0 : 0 ≤ i) (h1 : i < n) : ∃ ad A1 c1, A = some ad ∧ w.cell? (ad.add (i.toNat * 2)) = some (.int .i64 (rd_T30 xs i).f0) ∧ w.cell? ⟨(ad.add (i.toNat * 2)).block, (ad.add (i.toNat * 2)).off + 1, none⟩ = some (.slice A1 (rd_T30 xs i).f1.length c1) ∧ (rd_T30 xs i).f1.length ≤ c1 ∧ (Kd.int .u8).C w A1 (rd_T30 xs i).f1.length (rd_T30 xs i).f1 := by
  obtain ⟨ad, c, e, _, hK, hc0⟩ := Kd.C_get h z30 i h0 h1
  have hc : ∀ j u, c[j]? = some u → w.cell? (ad.add (i.toNat * 2 + j)) = some u := hc0
  obtain ⟨A1, c1, rfl, l1, g1⟩ := k30_open hK
  exact ⟨ad, A1, c1, e, hc 0 _ rfl, by rw [← add_field _ _ 1 (by omega)]; exact hc 1 _ rfl, l1, g1⟩
structure S106 where
  f0 : Int
  f1 : (List Int)
end Go.Proofs.Ytddnhcnkjcdfgaa.P

namespace Go.Proofs.Ytddnhcnkjcdfgaa.P
open Go.RowKit Go.Proofs.YtddnhcnkjcdfgaaW.PrintWords Go.Proofs.YtddnhcnkjcdfgaaW.PrintLast Go.Proofs.YtddnhcnkjcdfgaaW.PrintMore
attribute [local go_sem] max2_int min2_int max_two min_two max_three min_three max_four min_four   -- for this text's walks alone
set_option linter.unusedVariables false
set_option linter.unusedSimpArgs false
def kilnlaw3_mod.f (a0 : Int) (a1 : Int) : Option (Int) := if a1 = 0 then (none) else (if (Int.tmod a0 a1) < 0 then (some (wrap64 ((Int.tmod a0 a1) + a1))) else (some (Int.tmod a0 a1)))
set_option maxHeartbeats 8000000 in
set_option maxRecDepth 100000 in
theorem kilnlaw3_mod.calls (a0 : Int) (a1 : Int) (r : Int) (w : World) (h : kilnlaw3_mod.f a0 a1 = some r) :
    Calls Try.prog 20 #[.int .i64 a0, .int .i64 a1] w fun e w' => e = .returned (.int .i64 r) ∧ Drawn0 w w' := by
  have H : (if a1 = 0 then (none) else (if (Int.tmod a0 a1) < 0 then (some (wrap64 ((Int.tmod a0 a1) + a1))) else (some (Int.tmod a0 a1)))) = some r := h
  clear h
  by_cases c3 : a1 = 0
  · rw [if_pos c3] at H
    exact absurd H (by simp)
  · rw [if_neg c3] at H
    have c3b0 : (a1 == 0) = false := beq_eq_false_iff_ne.mpr c3
    have c3b1 : (a1 != 0) = true := bne_iff_ne.mpr c3
    by_cases c4 : (Int.tmod a0 a1) < 0
    · rw [if_pos c4] at H
      have c4b0 : decide ((Int.tmod a0 a1) < 0) = true := decide_eq_true c4
      clear c4
      obtain rfl := Option.some.inj H
      go_enter Try.func20, Try.ntmps20
      go_wp2
      go_ret
      exact ⟨by first | rfl | (simp; done) | (simp [*]; done), by repeat (first | exact Drawn0.refl _ | apply Drawn0.step)⟩
    · rw [if_neg c4] at H
      have c4b0 : decide ((Int.tmod a0 a1) < 0) = false := decide_eq_false c4
      clear c4
      obtain rfl := Option.some.inj H
      go_enter Try.func20, Try.ntmps20
      go_wp2
      go_ret
      exact ⟨by first | rfl | (simp; done) | (simp [*]; done), by repeat (first | exact Drawn0.refl _ | apply Drawn0.step)⟩
def kilnlaw3_sector.l0 : Nat → List Int → List Int → Int → Option (List Int)
  | 0, _, _, _ => none
  | k + 1, x0, x3, x4 => if x4 < (x3.length : Int) then (if (x0.length : Int) > 0 then (if (x0.length : Int) = 0 then (none) else (if 0 ≤ (Int.tmod x4 (x0.length : Int)) then (if (Int.tmod x4 (x0.length : Int)) < (x0.length : Int) then (if 0 ≤ x4 then (kilnlaw3_sector.l0 k x0 (x3.set (x4 : Int).toNat (rd x0 (Int.tmod x4 (x0.length : Int)))) (wrap64 (x4 + 1))) else (none)) else (none)) else (none))) else (some x3)) else (some x3)
def kilnlaw3_sector.f (k : Nat) (l0 : List Int) : Option (List Int) := if 512 ≤ 281474976710656 then (kilnlaw3_sector.l0 k l0 (List.replicate 512 0) 0) else (none)
theorem kilnlaw3_sector.mono_l : ∀ k, (∀ y0 y1 y2, LeO (kilnlaw3_sector.l0 k y0 y1 y2) (kilnlaw3_sector.l0 (k + 1) y0 y1 y2))
  | 0 => fun _ _ _ r h => by simp [kilnlaw3_sector.l0] at h
  | k + 1 => by
    have ih0 := kilnlaw3_sector.mono_l k
    · intro y0 y1 y2
      unfold kilnlaw3_sector.l0
      repeat' first
      | (with_reducible exact ih0 _ _ _)
      | (with_reducible exact LeO.refl _)
      | (with_reducible exact LeO.none _)
      | (with_reducible refine LeO.ite ?_ ?_)
      | (with_reducible refine LeO.bind ?_ (fun _ => ?_))
      | exact ih0 _ _ _
      | exact LeO.none _
      | refine LeO.ite ?_ ?_
      | refine LeO.bind ?_ (fun _ => ?_)
theorem kilnlaw3_sector.mono : ∀ a0 k, LeO (kilnlaw3_sector.f k a0) (kilnlaw3_sector.f (k + 1) a0) := by
  intro a0 k
  have ih0 := kilnlaw3_sector.mono_l k
  unfold kilnlaw3_sector.f
  repeat' first
      | (with_reducible exact ih0 _ _ _)
      | (with_reducible exact LeO.refl _)
      | (with_reducible exact LeO.none _)
      | (with_reducible refine LeO.ite ?_ ?_)
      | (with_reducible refine LeO.bind ?_ (fun _ => ?_))
      | exact ih0 _ _ _
      | exact LeO.none _
      | refine LeO.ite ?_ ?_
      | refine LeO.bind ?_ (fun _ => ?_)
set_option maxHeartbeats 8000000 in
set_option maxRecDepth 100000 in
theorem kilnlaw3_sector.calls (k : Nat) (A0 : Option Addr) (c0 : Nat) (l0 : List Int) (r : List Int) (w : World) (hr0 : Kd.C (Kd.int .u8) w A0 l0.length l0) (hc0 : l0.length ≤ c0) (h : kilnlaw3_sector.f k l0 = some r) :
    Calls Try.prog 22 #[.slice A0 l0.length c0] w fun e w' => ∃ v0_ : Value, e = .returned (v0_) ∧ Kd.R (Kd.int .u8) 5 w' w.heap.size (fun _ => True) v0_ r ∧ Below w.heap.size w w' := by
  have HR0 := Aside0.mk hr0
  have HC0 := Aside0.mk hc0
  clear hr0 hc0
  have HB := Aside0.mk (Below.refl w.heap.size w)
  have H : (if 512 ≤ 281474976710656 then (kilnlaw3_sector.l0 k l0 (List.replicate 512 0) 0) else (none)) = some r := h
  clear h
  by_cases c2 : 512 ≤ 281474976710656
  · rw [if_pos c2] at H
    have c2b0 := eq_true c2
    have c2b1 : decide (512 ≤ 281474976710656) = true := decide_eq_true c2
    clear c2
    obtain ⟨y101, hy101⟩ : ∃ y_ : List Int, y_ = (List.replicate 512 0) := ⟨_, rfl⟩
    replace H : (kilnlaw3_sector.l0 k l0 y101 0) = some r := by first | (rw [hy101]; with_reducible exact H) | (have H2_ := (Option.bind_some _ _).symm.trans H; rw [hy101]; with_reducible exact H2_) | (have H2_ := (Option.bind_some _ _).symm.trans H; with_reducible exact H2_) | with_reducible exact H | (rw [hy101]; exact H) | exact H
    have Ny101 := Aside0.mk hy101
    clear hy101
    have H' := Aside0.mk H
    clear H
    go_enter Try.func22, Try.ntmps22
    go_wp2_with (first | ((with_reducible refine gate_dst (N := 5) rfl ?_); (try (refine gate_guard (by rfl) ?_; dsimp only)); refine Kd.R_make (Kd.int .u8) _ 5 rfl (N := 5) rfl 28 _ _ rfl 512 rfl rfl Try.underlying28 (.int .u8 0) 1 info5 rfl (by decide) (by omega) 0 (ok := fun _ => True) (okp := fun _ => True) rfl (fun _ hk => hk) trivial (by omega) (by omega) (Below.refl _ _) (Nat.le_refl _) ?_; intro v102 w3 ho4 hb hg_ hnew_; clear hg_ hnew_; (first | rw [← Ny101.out] at ho4 | (simp only [Int.reduceToNat] at ho4; rw [← Ny101.out] at ho4)); have n0_ := Aside0.mk (Kd.R_lower ho4 (below_size (by repeat (first | (with_reducible first | exact HB.out | apply below_alloc | apply pw_below_drewN | apply below_drew1) | exact HB.out)))); have n1_ := Aside0.mk (below_step (by repeat (first | (with_reducible first | exact HB.out | apply below_alloc | apply pw_below_drewN | apply below_drew1) | exact HB.out)) hb); clear HB; have HO103 := n0_; have HB := n1_; clear n0_ n1_; clear hb ho4))
    go_loopg [4] k (fun kq v4 w' => ∃ (x3_1 : List Int) (x4_1 : Int), v4 = .int .i64 x4_1 ∧ Aside0 (kilnlaw3_sector.l0 kq l0 x3_1 x4_1 = some r) ∧ Aside0 (kq ≤ k) ∧ Aside0 (Kd.R (Kd.int .u8) 5 w' w.heap.size (fun _ => True) v102 x3_1) ∧ Aside0 (Below w.heap.size w w'))
    case atStart => exact ⟨(y101), (0), (by first | rfl | (simp; done) | (simp [*]; done)), H', ⟨Nat.le_refl _⟩, ⟨by (with_reducible repeat (first | apply Kd.R_alloc | apply Kd.R_drewN | apply Kd.R_drew)); exact HO103.out⟩, ⟨by repeat (first | (with_reducible first | exact HB.out | apply below_alloc | apply pw_below_drewN | apply below_drew1) | exact HB.out)⟩⟩
    case round =>
      clear H'
      try clear c2
      try clear c2b0
      try clear c2b1
      try clear p2
      obtain ⟨x3_1, x4_1, rfl, HA, HK1, HO_3, HB⟩ := hrel
      cases gk with
      | zero => exact absurd HA.out (by simp [kilnlaw3_sector.l0])
      | succ k1 =>
        have H := HA.out
        clear HA
        simp only [kilnlaw3_sector.l0] at H
        by_cases c5 : x4_1 < (x3_1.length : Int)
        · rw [if_pos c5] at H
          have c5b0 : decide (x4_1 < (x3_1.length : Int)) = true := decide_eq_true c5
          clear c5
          by_cases c6 : (l0.length : Int) > 0
          · rw [if_pos c6] at H
            have c6b0 : decide (0 < (l0.length : Int)) = true := decide_eq_true c6
            have c6b1 : decide (0 < l0.length) = true := decide_eq_true (by omega)
            clear c6
            by_cases c7 : (l0.length : Int) = 0
            · rw [if_pos c7] at H
              exact absurd H (by simp)
            · rw [if_neg c7] at H
              have c7b0 : ((l0.length : Int) == 0) = false := beq_eq_false_iff_ne.mpr c7
              have c7b1 : ((l0.length : Int) != 0) = true := bne_iff_ne.mpr c7
              have c7b2 : ¬ (l0 = []) := fun h_ => c7 (by rw [h_]; rfl)
              obtain ⟨ji8, hji8⟩ : ∃ j_ : Int, (Int.tmod x4_1 (l0.length : Int)) = j_ := ⟨_, rfl⟩
              replace H : (if 0 ≤ (ji8) then (if (ji8) < (l0.length : Int) then (if 0 ≤ x4_1 then (kilnlaw3_sector.l0 k1 l0 (x3_1.set (x4_1 : Int).toNat (rd l0 (ji8))) (wrap64 (x4_1 + 1))) else (none)) else (none)) else (none)) = some r := by first | (rw [hji8] at H; exact H) | (simp only [hji8] at H ⊢; exact H)
              by_cases c9 : 0 ≤ (ji8)
              · rw [if_pos c9] at H
                have c9b0 : decide (0 ≤ (ji8)) = true := decide_eq_true c9
                clear c9
                by_cases c10 : (ji8) < (l0.length : Int)
                · rw [if_pos c10] at H
                  have c10b0 : decide ((ji8) < (l0.length : Int)) = true := decide_eq_true c10
                  clear c10
                  by_cases c11 : 0 ≤ x4_1
                  · rw [if_pos c11] at H
                    have c11b0 : decide (0 ≤ x4_1) = true := decide_eq_true c11
                    clear c11
                    obtain ⟨y105, hy105⟩ : ∃ y_ : List Int, y_ = (x3_1.set (x4_1 : Int).toNat (rd l0 (ji8))) := ⟨_, rfl⟩
                    replace H : (kilnlaw3_sector.l0 k1 l0 y105 (wrap64 (x4_1 + 1))) = some r := by first | (rw [hy105]; with_reducible exact H) | (have H2_ := (Option.bind_some _ _).symm.trans H; rw [hy105]; with_reducible exact H2_) | (have H2_ := (Option.bind_some _ _).symm.trans H; with_reducible exact H2_) | with_reducible exact H | (rw [hy105]; exact H) | exact H
                    have Ny105 := Aside0.mk hy105
                    clear hy105
                    have H' := Aside0.mk H
                    clear H
                    obtain ⟨Ao13, co13, eo13⟩ := Kd.R_slice HO_3.out
                    subst eo13
                    have p104 : 0 ≤ ((ji8) : Int) := of_decide_eq_true (by first | (with_reducible assumption) | assumption)
                    have q104 : (ji8) < (l0.length : Int) := of_decide_eq_true (by first | (with_reducible assumption) | assumption)
                    obtain ⟨ad104, e104, hx104_0⟩ := Kd.at_int HR0.out (ji8) p104 q104
                    cases e104
                    replace hx104_0 := (HB.out.cell (World.block_lt_of_cell? w _ hx104_0)).trans hx104_0
                    replace p104 := eq_true p104
                    replace q104 := eq_true q104
                    have p12 : 0 ≤ (x4_1 : Int) := of_decide_eq_true (by first | (with_reducible assumption) | assumption)
                    have q12 : (x4_1 : Int) < ((x3_1.length : Int) : Int) := of_decide_eq_true (by first | (with_reducible assumption) | assumption)
                    obtain ⟨go12, co12, eo12, gb12, gl12, cl12, HG12⟩ := Kd.R_form HO_3.out (by omega)
                    (first | cases eo12 | (injection eo12 with ea_ en_ ec_; (first | subst ea_ | (injection ea_ with ea_; subst ea_)); subst ec_; clear en_))
                    have GB12 := Aside0.mk gb12
                    have GG12 := Aside0.mk HG12
                    clear gb12 gl12 HG12
                    obtain ⟨hx12_0, hf12_0⟩ := Kd.R_celln 0 HO_3.out (x4_1 : Int) p12 q12
                    replace p12 := eq_true p12
                    replace q12 := eq_true q12
                    have HP14 := Kd.R_putg HO_3.out (x4_1 : Int) (rd l0 (ji8))
                    go_wp2_with (first | ((with_reducible refine gate_store (t := 5) (p := 26) rfl ?_); refine store_event (t := 5) (p := 26) (v := ?vo_w15) (w1 := (wr.setCell ⟨go12, (x4_1 : Int).toNat, none⟩ (.int .u8 (rd l0 (ji8))))) ?hg ?ho ?hn ?hr ?_; (case ho => rfl); (case hg => rfl); (case hn => rfl); (case hr => first | (go_simp; done) | (go_simp; rfl)); intro w15 hw; have hg : wr.grownBy w15 (some go12) := (by rw [hw]; exact HP14.2); have hp_ : Kd.R (Kd.int .u8) 5 w15 w.heap.size (fun _ => True) (.slice (some ⟨go12, 0, none⟩) x3_1.length co13) y105 := (by rw [hw, Ny105.out]; exact HP14.1); clear HP14; have n0_ := Aside0.mk (hp_); have n1_ := Aside0.mk ((by rw [hw]; exact below_set (HB.out) GB12.out : Below w.heap.size w w15)); clear HO_3; clear HB; have HO_3 := n0_; have HB := n1_; clear n0_ n1_; clear hg hw hp_))
                    go_roundg k1
                    case measure => have := HK1.out; omega
                    case rel => exact ⟨(y105), (wrap64 (x4_1 + 1)), (by first | rfl | (simp; done) | (simp [*]; done)), H', ⟨by have := HK1.out; omega⟩, ⟨by (with_reducible repeat (first | apply Kd.R_alloc | apply Kd.R_drewN | apply Kd.R_drew)); exact HO_3.out⟩, ⟨by repeat (first | (with_reducible first | exact HB.out | apply below_alloc | apply pw_below_drewN | apply below_drew1) | exact HB.out)⟩⟩
                  · rw [if_neg c11] at H
                    exact absurd H (by simp)
                · rw [if_neg c10] at H
                  exact absurd H (by simp)
              · rw [if_neg c9] at H
                exact absurd H (by simp)
          · rw [if_neg c6] at H
            have c6b0 : decide (0 < (l0.length : Int)) = false := decide_eq_false c6
            have c6b1 : decide (0 < l0.length) = false := decide_eq_false (by omega)
            clear c6
            obtain rfl := Option.some.inj H
            obtain ⟨Ao16, co16, eo16⟩ := Kd.R_slice HO_3.out
            subst eo16
            go_wp2
            go_ret
            exact ⟨_, by first | rfl | (simp [errW_none, errW_some] <;> rfl) | (simp [*, errW_none, errW_some] <;> rfl), by (with_reducible repeat (first | apply Kd.R_alloc | apply Kd.R_drewN | apply Kd.R_drew)); exact HO_3.out, by repeat (first | (with_reducible first | exact HB.out | apply below_alloc | apply pw_below_drewN | apply below_drew1) | exact HB.out)⟩
        · rw [if_neg c5] at H
          have c5b0 : decide (x4_1 < (x3_1.length : Int)) = false := decide_eq_false c5
          clear c5
          obtain rfl := Option.some.inj H
          obtain ⟨Ao17, co17, eo17⟩ := Kd.R_slice HO_3.out
          subst eo17
          go_wp2
          go_ret
          exact ⟨_, by first | rfl | (simp [errW_none, errW_some] <;> rfl) | (simp [*, errW_none, errW_some] <;> rfl), by (with_reducible repeat (first | apply Kd.R_alloc | apply Kd.R_drewN | apply Kd.R_drew)); exact HO_3.out, by repeat (first | (with_reducible first | exact HB.out | apply below_alloc | apply pw_below_drewN | apply below_drew1) | exact HB.out)⟩
  · rw [if_neg c2] at H
    exact absurd H (by simp)
def kilnlaw3_last.l0 : Nat → List (S30) → Int → Int → Option (List Int)
  | 0, _, _, _ => none
  | k + 1, x0, x1, x7 => if x7 ≥ 0 then (if 0 ≤ x7 then (if x7 < (x0.length : Int) then (if ((rd_T30 x0 x7).f0) = x1 then (some ((rd_T30 x0 x7).f1)) else (kilnlaw3_last.l0 k x0 x1 (wrap64 (x7 - 1)))) else (none)) else (none)) else (if 512 ≤ 281474976710656 then (some (List.replicate 512 0)) else (none))
def kilnlaw3_last.f (k : Nat) (l0 : List (S30)) (a1 : Int) (a2 : Int) : Option (List Int) := kilnlaw3_last.l0 k l0 a1 (wrap64 (a2 - 1))
theorem kilnlaw3_last.mono_l : ∀ k, (∀ y0 y1 y2, LeO (kilnlaw3_last.l0 k y0 y1 y2) (kilnlaw3_last.l0 (k + 1) y0 y1 y2))
  | 0 => fun _ _ _ r h => by simp [kilnlaw3_last.l0] at h
  | k + 1 => by
    have ih0 := kilnlaw3_last.mono_l k
    · intro y0 y1 y2
      unfold kilnlaw3_last.l0
      repeat' first
      | (with_reducible exact ih0 _ _ _)
      | (with_reducible exact LeO.refl _)
      | (with_reducible exact LeO.none _)
      | (with_reducible refine LeO.ite ?_ ?_)
      | (with_reducible refine LeO.bind ?_ (fun _ => ?_))
      | exact ih0 _ _ _
      | exact LeO.none _
      | refine LeO.ite ?_ ?_
      | refine LeO.bind ?_ (fun _ => ?_)
theorem kilnlaw3_last.mono : ∀ a0 a1 a2 k, LeO (kilnlaw3_last.f k a0 a1 a2) (kilnlaw3_last.f (k + 1) a0 a1 a2) := by
  intro a0 a1 a2 k
  have ih0 := kilnlaw3_last.mono_l k
  unfold kilnlaw3_last.f
  repeat' first
      | (with_reducible exact ih0 _ _ _)
      | (with_reducible exact LeO.refl _)
      | (with_reducible exact LeO.none _)
      | (with_reducible refine LeO.ite ?_ ?_)
      | (with_reducible refine LeO.bind ?_ (fun _ => ?_))
      | exact ih0 _ _ _
      | exact LeO.none _
      | refine LeO.ite ?_ ?_
      | refine LeO.bind ?_ (fun _ => ?_)
set_option maxHeartbeats 8000000 in
set_option maxRecDepth 100000 in
theorem kilnlaw3_last.calls (k : Nat) (P0_ : Nat → Prop) (A0 : Option Addr) (c0 : Nat) (l0 : List (S30)) (a1 : Int) (a2 : Int) (r : List Int) (w : World) (hs0 : Kd.V k30 30 w w.heap.size (fun k_ => P0_ k_) (.slice A0 l0.length c0) l0) (h : kilnlaw3_last.f k l0 a1 a2 = some r) :
    Calls Try.prog 42 #[.slice A0 l0.length c0, .int .i64 a1, .int .i64 a2] w fun e w' => ∃ v0_ : Value, e = .returned (v0_) ∧ Kd.V (Kd.int .u8) 5 w' w.heap.size (fun k_ => (P0_ k_ ∨ w.heap.size ≤ k_)) v0_ r ∧ Below w.heap.size w w' := by
  have HO0 := Aside0.mk (show Kd.V k30 30 w w.heap.size (fun k_ => (P0_ k_ ∨ w.heap.size ≤ k_)) (.slice A0 l0.length c0) l0 from Kd.V_mono hs0 (fun k_ hk => .inl hk))
  have HB := Aside0.mk (Below.refl w.heap.size w)
  have H : (kilnlaw3_last.l0 k l0 a1 (wrap64 (a2 - 1))) = some r := h
  clear h
  have H' := Aside0.mk H
  clear H
  go_enter Try.func42, Try.ntmps42
  go_wp2
  go_loopg [7] k (fun kq v7 w' => ∃ (x7_1 : Int), v7 = .int .i64 x7_1 ∧ Aside0 (kilnlaw3_last.l0 kq l0 a1 x7_1 = some r) ∧ Aside0 (kq ≤ k) ∧ Aside0 (Kd.V k30 30 w' w.heap.size (fun k_ => (P0_ k_ ∨ w.heap.size ≤ k_)) (.slice A0 l0.length c0) l0) ∧ Aside0 (Below w.heap.size w w'))
  case atStart => exact ⟨(wrap64 (a2 - 1)), (by first | rfl | (simp; done) | (simp [*]; done)), H', ⟨Nat.le_refl _⟩, ⟨by (with_reducible repeat (first | apply Kd.V_alloc | apply Kd.V_drewN | apply Kd.V_drew)); exact HO0.out⟩, ⟨by repeat (first | (with_reducible first | exact HB.out | apply below_alloc | apply pw_below_drewN | apply below_drew1) | exact HB.out)⟩⟩
  case round =>
    clear H'
    try clear p2
    obtain ⟨x7_1, rfl, HA, HK1, HO_0, HB⟩ := hrel
    cases gk with
    | zero => exact absurd HA.out (by simp [kilnlaw3_last.l0])
    | succ k1 =>
      have H := HA.out
      clear HA
      simp only [kilnlaw3_last.l0] at H
      by_cases c4 : x7_1 ≥ 0
      · rw [if_pos c4] at H
        have c4b0 : decide (0 ≤ x7_1) = true := decide_eq_true c4
        clear c4
        by_cases c5 : 0 ≤ x7_1
        · rw [if_pos c5] at H
          have c5b0 : decide (0 ≤ x7_1) = true := decide_eq_true c5
          clear c5
          by_cases c6 : x7_1 < (l0.length : Int)
          · rw [if_pos c6] at H
            have c6b0 : decide (x7_1 < (l0.length : Int)) = true := decide_eq_true c6
            clear c6
            by_cases c7 : ((rd_T30 l0 x7_1).f0) = a1
            · rw [if_pos c7] at H
              have c7b0 : (((rd_T30 l0 x7_1).f0) == a1) = true := beq_iff_eq.mpr c7
              have c7b1 : (((rd_T30 l0 x7_1).f0) != a1) = false := bne_eq_false_iff_eq.mpr c7
              clear c7
              obtain rfl := Option.some.inj H
              have p106 : 0 ≤ (x7_1 : Int) := of_decide_eq_true (by first | (with_reducible assumption) | assumption)
              have q106 : x7_1 < (l0.length : Int) := of_decide_eq_true (by first | (with_reducible assumption) | assumption)
              obtain ⟨ad106, A106_1, c106_1, e106, hx106_0, hx106_1, hl106_1, hi106_1⟩ := at_T30 (Kd.V_reads' HO_0.out).2.2 x7_1 p106 q106
              cases e106
              obtain ⟨ce106, hce106, hMe106, hcc106⟩ := Kd.V_get HO_0.out z30 x7_1 p106 (by first | exact q106 | exact of_decide_eq_true (by first | (with_reducible assumption) | assumption) | (have e_ := (Kd.V_reads' HO_0.out).1; omega))
              obtain ⟨ua106_1, uc106_1, rfl, ul106_1, ge106_1⟩ := k30_openF hMe106
              have hv106_1 := hcc106 1 _ rfl
              rw [add_field _ _ 1 (by omega)] at hv106_1
              replace hv106_1 := Option.some.inj (hv106_1.symm.trans hx106_1)
              injection hv106_1 with hva_ hvn_ hvc_
              rw [hva_] at ge106_1
              rw [hvc_] at ul106_1
              have HL106_1 := Aside0.mk (show Kd.V (Kd.int .u8) 5 _ w.heap.size _ _ ((rd_T30 l0 x7_1).f1) from Kd.V_mk ul106_1 ge106_1)
              clear hva_ hvn_ hvc_ ge106_1 ul106_1
              clear hcc106 hce106
              have HR106_1 := Aside0.mk hi106_1
              have HC106_1 := Aside0.mk hl106_1
              clear hi106_1 hl106_1
              replace p106 := eq_true p106
              replace q106 := eq_true q106
              have p107 : 0 ≤ (x7_1 : Int) := of_decide_eq_true (by first | (with_reducible assumption) | assumption)
              have q107 : x7_1 < (l0.length : Int) := of_decide_eq_true (by first | (with_reducible assumption) | assumption)
              obtain ⟨ad107, A107_1, c107_1, e107, hx107_0, hx107_1, hl107_1, hi107_1⟩ := at_T30 (Kd.V_reads' HO_0.out).2.2 x7_1 p107 q107
              obtain rfl : ad106 = ad107 := (by injection e107)
              obtain ⟨ce107, hce107, hMe107, hcc107⟩ := Kd.V_get HO_0.out z30 x7_1 p107 (by first | exact q107 | exact of_decide_eq_true (by first | (with_reducible assumption) | assumption) | (have e_ := (Kd.V_reads' HO_0.out).1; omega))
              obtain ⟨ua107_1, uc107_1, rfl, ul107_1, ge107_1⟩ := k30_openF hMe107
              have hv107_1 := hcc107 1 _ rfl
              rw [add_field _ _ 1 (by omega)] at hv107_1
              replace hv107_1 := Option.some.inj (hv107_1.symm.trans hx107_1)
              injection hv107_1 with hva_ hvn_ hvc_
              rw [hva_] at ge107_1
              rw [hvc_] at ul107_1
              have HL107_1 := Aside0.mk (show Kd.V (Kd.int .u8) 5 _ w.heap.size _ _ ((rd_T30 l0 x7_1).f1) from Kd.V_mk ul107_1 ge107_1)
              clear hva_ hvn_ hvc_ ge107_1 ul107_1
              clear hcc107 hce107
              have HR107_1 := Aside0.mk hi107_1
              have HC107_1 := Aside0.mk hl107_1
              clear hi107_1 hl107_1
              replace p107 := eq_true p107
              replace q107 := eq_true q107
              have ea_ := Option.some.inj (hx106_1.symm.trans hx107_1)
              injection ea_ with ea_ en_ ec_
              subst ea_
              subst ec_
              clear en_
              go_wp2
              go_ret
              exact ⟨_, by first | rfl | (simp [errW_none, errW_some] <;> rfl) | (simp [*, errW_none, errW_some] <;> rfl), by (with_reducible repeat (first | apply Kd.V_alloc | apply Kd.V_drewN | apply Kd.V_drew)); exact HL107_1.out, by repeat (first | (with_reducible first | exact HB.out | apply below_alloc | apply pw_below_drewN | apply below_drew1) | exact HB.out)⟩
            · rw [if_neg c7] at H
              have c7b0 : (((rd_T30 l0 x7_1).f0) == a1) = false := beq_eq_false_iff_ne.mpr c7
              have c7b1 : (((rd_T30 l0 x7_1).f0) != a1) = true := bne_iff_ne.mpr c7
              have H' := Aside0.mk H
              clear H
              have p106 : 0 ≤ (x7_1 : Int) := of_decide_eq_true (by first | (with_reducible assumption) | assumption)
              have q106 : x7_1 < (l0.length : Int) := of_decide_eq_true (by first | (with_reducible assumption) | assumption)
              obtain ⟨ad106, A106_1, c106_1, e106, hx106_0, hx106_1, hl106_1, hi106_1⟩ := at_T30 (Kd.V_reads' HO_0.out).2.2 x7_1 p106 q106
              cases e106
              obtain ⟨ce106, hce106, hMe106, hcc106⟩ := Kd.V_get HO_0.out z30 x7_1 p106 (by first | exact q106 | exact of_decide_eq_true (by first | (with_reducible assumption) | assumption) | (have e_ := (Kd.V_reads' HO_0.out).1; omega))
              obtain ⟨ua106_1, uc106_1, rfl, ul106_1, ge106_1⟩ := k30_openF hMe106
              have hv106_1 := hcc106 1 _ rfl
              rw [add_field _ _ 1 (by omega)] at hv106_1
              replace hv106_1 := Option.some.inj (hv106_1.symm.trans hx106_1)
              injection hv106_1 with hva_ hvn_ hvc_
              rw [hva_] at ge106_1
              rw [hvc_] at ul106_1
              have HL106_1 := Aside0.mk (show Kd.V (Kd.int .u8) 5 _ w.heap.size _ _ ((rd_T30 l0 x7_1).f1) from Kd.V_mk ul106_1 ge106_1)
              clear hva_ hvn_ hvc_ ge106_1 ul106_1
              clear hcc106 hce106
              have HR106_1 := Aside0.mk hi106_1
              have HC106_1 := Aside0.mk hl106_1
              clear hi106_1 hl106_1
              replace p106 := eq_true p106
              replace q106 := eq_true q106
              go_wp2
              go_roundg k1
              case measure => have := HK1.out; omega
              case rel => exact ⟨(wrap64 (x7_1 - 1)), (by first | rfl | (simp; done) | (simp [*]; done)), H', ⟨by have := HK1.out; omega⟩, ⟨by (with_reducible repeat (first | apply Kd.V_alloc | apply Kd.V_drewN | apply Kd.V_drew)); exact HO_0.out⟩, ⟨by repeat (first | (with_reducible first | exact HB.out | apply below_alloc | apply pw_below_drewN | apply below_drew1) | exact HB.out)⟩⟩
          · rw [if_neg c6] at H
            exact absurd H (by simp)
        · rw [if_neg c5] at H
          exact absurd H (by simp)
      · rw [if_neg c4] at H
        have c4b0 : decide (0 ≤ x7_1) = false := decide_eq_false c4
        clear c4
        by_cases c8 : 512 ≤ 281474976710656
        · rw [if_pos c8] at H
          have c8b0 := eq_true c8
          have c8b1 : decide (512 ≤ 281474976710656) = true := decide_eq_true c8
          clear c8
          obtain ⟨y108, hy108⟩ : ∃ y_ : List Int, y_ = (List.replicate 512 0) := ⟨_, rfl⟩
          replace H : (some y108) = some r := by first | (rw [hy108]; with_reducible exact H) | (have H2_ := (Option.bind_some _ _).symm.trans H; rw [hy108]; with_reducible exact H2_) | (have H2_ := (Option.bind_some _ _).symm.trans H; with_reducible exact H2_) | with_reducible exact H | (rw [hy108]; exact H) | exact H
          have Ny108 := Aside0.mk hy108
          clear hy108
          obtain rfl := Option.some.inj H
          go_wp2_with (first | ((with_reducible refine gate_dst (N := 26) rfl ?_); refine Kd.R_make (Kd.int .u8) _ 5 rfl (N := 26) rfl 28 _ _ rfl 512 rfl rfl Try.underlying28 (.int .u8 0) 1 info5 rfl (by decide) (by omega) 0 (ok := fun _ => True) (okp := fun _ => True) rfl (fun _ hk => hk) trivial (by omega) (by omega) (Below.refl _ _) (Nat.le_refl _) ?_; intro v109 w9 ho10 hb hg_ hnew_; clear hg_ hnew_; (first | rw [← Ny108.out] at ho10 | (simp only [Int.reduceToNat] at ho10; rw [← Ny108.out] at ho10)); have n0_ := Aside0.mk (Kd.V_elder' (by (with_reducible repeat (first | apply Kd.V_alloc | apply Kd.V_drewN | apply Kd.V_drew)); exact HO_0.out) (Kd.R_base ho10) hb); have n1_ := Aside0.mk (Kd.R_lower (Kd.R_newM (M := fun k_ => (w.heap.size ≤ k_)) ho10 (below_size (by repeat (first | (with_reducible first | exact HB.out | apply below_alloc | apply pw_below_drewN | apply below_drew1) | exact HB.out))) (fun k_ h_ => h_)) (below_size (by repeat (first | (with_reducible first | exact HB.out | apply below_alloc | apply pw_below_drewN | apply below_drew1) | exact HB.out)))); have n2_ := Aside0.mk (below_step (by repeat (first | (with_reducible first | exact HB.out | apply below_alloc | apply pw_below_drewN | apply below_drew1) | exact HB.out)) hb); clear HO_0; clear HB; have HO_0 := n0_; have HO110 := n1_; have HB := n2_; clear n0_ n1_ n2_; clear hb ho10))
          go_ret
          exact ⟨_, by first | rfl | (simp [errW_none, errW_some] <;> rfl) | (simp [*, errW_none, errW_some] <;> rfl), Kd.V_mono (Kd.R_V (by (with_reducible repeat (first | apply Kd.R_alloc | apply Kd.R_drewN | apply Kd.R_drew)); exact Kd.R_mono HO110.out (fun _ hk => hk.1))) (fun k_ hk => by first | exact ⟨(.inr (hk.1)), hk.2⟩ | exact (.inr (hk))), by repeat (first | (with_reducible first | exact HB.out | apply below_alloc | apply pw_below_drewN | apply below_drew1) | exact HB.out)⟩
        · rw [if_neg c8] at H
          exact absurd H (by simp)
end Go.Proofs.Ytddnhcnkjcdfgaa.P

namespace Go.Proofs.Ytddnhcnkjcdfgaa.M
open Go.RowKit Go.Maps Go.Proofs.YtddnhcnkjcdfgaaW.PrintWords Go.Proofs.YtddnhcnkjcdfgaaW.PrintLast Go.Proofs.YtddnhcnkjcdfgaaW.PrintMore
open Go.Proofs.Ytddnhcnkjcdfgaa.P
attribute [local go_sem] max2_int min2_int max_two min_two max_three min_three max_four min_four
set_option linter.unusedVariables false
set_option linter.unusedSimpArgs false
def DS.withR (s : DS) (r : Int) : DS := ⟨s.n, s.L, s.W, s.c, r, s.wr, s.fl⟩
theorem read_at (g i : Nat) (w : World) (base : Nat) (F : Nat → Prop) (s : DS) (h : DkAt w base g F s) (hi : i < s.n) :
    Calls Try.prog 25 #[.pointer (some ⟨g, 0, none⟩), .int .i64 (i : Int)] w fun e w' => ∃ v, e = .returned (.tuple #[v, .int .i64 0]) ∧ Kd.R (Kd.int .u8) 5 w' w.heap.size (fun _ => True) v (s.cur i) ∧ DkAt w' base g F s.reads ∧ Chg F w w' := by
  obtain ⟨lb, cp, mb, f, k, D, h1, h2⟩ := h
  refine (read_in g i w base lb cp mb k f D s h1 hi).mono ?_
  rintro e w' ⟨v, he, hr, hd, hc⟩
  exact ⟨v, he, hr, ⟨lb, cp, mb, f, k, D, hd, h2⟩, hc.mono (fun x hx => (h2 x).2 (.inl hx))⟩
theorem write_at (g i : Nat) (A : Option Addr) (c : Nat) (b : List Int) (w : World) (base : Nat) (F : Nat → Prop) (s : DS) (h : DkAt w base g F s) (hi : i < s.n) (hC : (Kd.int .u8).C w A 512 b) (hne : ∀ ad, A = some ad → ¬ F ad.block) (hc : s.c < 1073741824) :
    Calls Try.prog 16 #[.pointer (some ⟨g, 0, none⟩), .int .i64 (i : Int), .slice A 512 c] w fun e w' => e = .returned (.int .i64 0) ∧ ∃ F', DkAt w' base g F' (s.put i b) ∧ (∀ b, F' b → F b ∨ w.heap.size ≤ b) ∧ Chg F w w' := by
  obtain ⟨lb, cp, mb, f, k, D, h1, h2⟩ := h
  refine (write_in g i A c b w base lb cp mb k f D s h1 hi hC (fun ad e hf => hne ad e ((h2 _).2 hf)) hc).mono ?_
  rintro e w' ⟨he, F', hd, hF, hch⟩
  exact ⟨he, F', hd, fun b hb => (hF b hb).imp (fun h => (h2 b).2 h) id, hch.mono (fun x hx => (h2 x).2 hx)⟩
theorem flush_at (g : Nat) (w : World) (base : Nat) (F : Nat → Prop) (s : DS) (h : DkAt w base g F s) :
    Calls Try.prog 17 #[.pointer (some ⟨g, 0, none⟩)] w fun e w' => (∃ v, e = .returned v) ∧ ∃ F', DkAt w' base g F' s.flush ∧ (∀ b, F' b → F b) ∧ Chg F w w' := by
  obtain ⟨lb, cp, mb, f, k, D, h1, h2⟩ := h
  refine (flush_in g w base lb cp mb k f D s h1).mono ?_
  rintro e w' ⟨he, hd, hch⟩
  refine ⟨he, _, ⟨lb, cp, mb, _, 0, _, hd, fun b => Iff.rfl⟩, ?_, hch.mono (fun x hx => (h2 x).2 (by rcases hx with h | h | h; exact .inl h; exact .inr (.inl h); exact .inr (.inr (.inl h))))⟩
  rintro b (h | h | h | ⟨i, hi, h⟩)
  · exact (h2 b).2 (.inl h)
  · exact (h2 b).2 (.inr (.inl h))
  · exact (h2 b).2 (.inr (.inr (.inl h)))
  · cases h
theorem image_at (g : Nat) (w : World) (base : Nat) (F : Nat → Prop) (s : DS) (h : DkAt w base g F s) :
    Calls Try.prog 26 #[.pointer (some ⟨g, 0, none⟩)] w fun e w' => ∃ go c, e = .returned (.slice (some ⟨go, 0, none⟩) s.n c) ∧ Kd.S KB 28 w' w.heap.size (fun _ => True) (.slice (some ⟨go, 0, none⟩) s.n c) s.L ∧ Below w.heap.size w w' := by
  obtain ⟨lb, cp, mb, f, k, D, h1, h2⟩ := h
  exact image_in g w base lb cp mb k f D s h1
def tells_T5 : Bool × List (List Nat × List Nat) := (true, [([], []), ([0], [0]), ([1], [1]), ([2], [2]), ([3, 2], [2, 3]), ([2], [2]), ([2], [2]), ([2], [2]), ([5, 6, 7, 2, 2], [2, 5, 6, 7]), ([8, 2], [2, 8]), ([4, 9, 2], [2, 4, 9]), ([2, 10], [2, 10])])
def tells_B5 : List Nat := [0, 1, 3, 7, 15, 7, 7, 7, 231, 487, 1023, 2047]
theorem tells_tab5 : rtab .any (opsOf Try.f18 5) = tells_T5 := by kernel_rfl
theorem tells_bits5 : waitsOk tells_T5.2 tells_B5 = true := by kernel_rfl
set_option maxHeartbeats 8000000 in
set_option maxRecDepth 100000 in
theorem tells_calls (g : Nat) (base : Nat) (F : Nat → Prop) (s : DS) (A2 : Option Addr) (c2 : Nat) (l2 : List (S30)) (a3 : Int) (w : World) (hd : DkAt w base g F s) (hs2 : Kd.V k30 30 w w.heap.size (fun k_ => ¬ F k_) (.slice A2 l2.length c2) l2) (hl : ∀ i, i < s.n → ∃ kl, kilnlaw3_last.f kl l2 (i : Int) a3 = some (s.cur i)) :
    Calls Try.prog 18 #[.pointer (some ⟨g, 0, none⟩), .int .i64 (s.n : Int), .slice A2 l2.length c2, .int .i64 a3] w fun e w' => e = .returned (.bool true) ∧ ∃ r', DkAt w' base g F (s.withR r') ∧ Chg F w w' := by
  have hn2 := hd.n_le.1
  have hnm := hd.n_le.2
  have HD0 := Aside0.mk hd
  have HS := Aside0.mk hs2
  have HL := Aside0.mk hl
  have HC2 := Aside0.mk (Kd.V_reads' hs2).2.1
  clear hd hs2 hl
  obtain ⟨n, hn⟩ : ∃ n, n = s.n := ⟨_, rfl⟩
  rw [← hn] at hn2 hnm ⊢
  have HN := Aside0.mk hn
  clear hn
  go_enter Try.func18, Try.ntmps18
  go_wp2
  go_loopg [9] n (fun kq v9 w' => ∃ (i : Nat), v9 = .int .i64 i ∧ Aside0 (i + kq = n) ∧ ∃ r', Aside0 (DkAt w' base g F (s.withR r')) ∧ Aside0 (Chg F w w'))
  case atStart => exact ⟨0, rfl, ⟨Nat.zero_add _⟩, s.r, HD0, ⟨Chg.refl _ _⟩⟩
  case round =>
    try clear c2
    obtain ⟨i, rfl, HI, r', HD, HX⟩ := hrel
    by_cases hi : i < n
    · have hib : decide (i < n) = true := decide_eq_true hi
      obtain ⟨kl, A8⟩ := HL.out i (HN.out ▸ hi)
      have HRD := Aside0.mk (read_at g i _ base F _ HD.out (show i < s.n from HN.out ▸ hi))
      have HIn := Aside0.mk hi
      clear hi
      go_wp2_with (go_at_call 25; (with_reducible refine HRD.out.mono ?_); rintro e w10 ⟨v122, rfl, hr, hd, hc⟩; have HO123 := Aside0.mk hr; have HDn := Aside0.mk hd; have HXn := Aside0.mk (HX.out.trans hc (fun _ h => .inl h)); clear hr hd hc HD HX)
      have HB := Aside0.mk (Below.refl w10.heap.size w10)
      have hrx : (s.withR r').cur i = s.cur i := rfl
      rw [hrx] at HO123
      clear hrx
      generalize s.cur i = t121 at HO123 A8
      have c9b0 : ((strOfNums t121).toList == (strOfNums t121).toList) = true := beq_iff_eq.mpr rfl
      have c9b1 : ((strOfNums t121).toList != (strOfNums t121).toList) = false := bne_eq_false_iff_eq.mpr rfl
      have HR2 := Aside0.mk (Kd.V_reads' (Kd.V_step HS.out (fun k hk hlt => HXn.out.block k hlt hk))).2.2
      have n0_ := Aside0.mk (Kd.R_drew HO123.out)
      have n1_ := Aside0.mk (below_drew1 HB.out)
      clear HO123
      clear HB
      have HO123 := n0_
      have HB := n1_
      clear n0_ n1_
      refine start_ (n := 12) (S := fun w' => (convert 28 9 v122).run Try.prog w' = .ok (.string (strOfNums t121)) w') (ds := []) (bb 12 0) (by kernel_rfl) rfl rfl (own_string (P := Try.prog) Try.underlying28 Try.underlying5 Try.underlying9 (Kd.own_of_R HO123.out)) (fun hHeld => ?_); refine with_tabW tells_tab5 tells_bits5 (fun HT_ HW_ => ?_)
      generalize w10.drew = w11 at HO123 HB hHeld ⊢
      refine pure_ (i := 0) (N := some 23) (v := ?_) (a' := ?_) (bb 12 1) rfl rfl (any_of HT_.out (by kernel_rfl)) (fun _ _ _ h => h) (Or.inl ⟨by rfl, ?_⟩) ?_ ?_
      rotate_left
      · intro w'
        go_simp
        with_reducible rfl
      rotate_left
      · simp only [Act.put, List.setIfInBounds_toArray, List.set_cons_zero, List.set_cons_succ, i64_w, i32_w]
        rfl
      refine pure_ (i := 1) (N := some 24) (v := ?_) (a' := ?_) (bb 12 3) rfl rfl (any_of HT_.out (by kernel_rfl)) (fun _ _ _ h => h) (Or.inl ⟨by rfl, ?_⟩) ?_ ?_
      rotate_left
      · intro w'
        go_simp
        with_reducible rfl
      rotate_left
      · simp only [Act.put, List.setIfInBounds_toArray, List.set_cons_zero, List.set_cons_succ, i64_w, i32_w]
        rfl
      refine pure_ (i := 2) (N := some 25) (v := ?_) (a' := ?_) (bb 12 7) rfl rfl (any_of HT_.out (by kernel_rfl)) (fun _ _ _ h => h) (Or.inl ⟨by rfl, ?_⟩) ?_ ?_
      rotate_left
      · intro w'
        go_simp
        with_reducible rfl
      rotate_left
      · simp only [Act.put, List.setIfInBounds_toArray, List.set_cons_zero, List.set_cons_succ, i64_w, i32_w]
        rfl
      refine pure_ (i := 3) (N := some 26) (v := ?_) (a' := ?_) (bb 12 15) rfl rfl (any_of HT_.out (by kernel_rfl)) (fun _ _ _ h => h) (Or.inl ⟨by rfl, ?_⟩) ?_ ?_
      rotate_left
      · intro w'
        go_simp
        with_reducible rfl
      rotate_left
      · simp only [Act.put, List.setIfInBounds_toArray, List.set_cons_zero, List.set_cons_succ, i64_w, i32_w]
        rfl
      refine take_ (i := 4) (N := some 27) (v := ?_) (a' := ?_) (bb 12 31) rfl rfl (take_ofW HT_.out HW_.out (by kernel_rfl)) (fun _ _ _ h => h) (Or.inl ⟨by rfl, ?_⟩) hHeld ?_ ?_
      rotate_left
      · intro w' s0
        go_simp
        with_reducible rfl
      rotate_left
      · simp only [Act.put, List.setIfInBounds_toArray, List.set_cons_zero, List.set_cons_succ, i64_w, i32_w]
        rfl
      refine pure_ (i := 5) (N := some 28) (v := ?_) (a' := ?_) (bb 12 63) rfl rfl (any_of HT_.out (by kernel_rfl)) (fun _ _ _ h => h) (Or.inl ⟨by rfl, ?_⟩) ?_ ?_
      rotate_left
      · intro w'
        go_simp
        with_reducible rfl
      rotate_left
      · simp only [Act.put, List.setIfInBounds_toArray, List.set_cons_zero, List.set_cons_succ, i64_w, i32_w]
        rfl
      refine pure_ (i := 6) (N := some 29) (v := ?_) (a' := ?_) (bb 12 127) rfl rfl (any_of HT_.out (by kernel_rfl)) (fun _ _ _ h => h) (Or.inl ⟨by rfl, ?_⟩) ?_ ?_
      rotate_left
      · intro w'
        go_simp
        with_reducible rfl
      rotate_left
      · simp only [Act.put, List.setIfInBounds_toArray, List.set_cons_zero, List.set_cons_succ, i64_w, i32_w]
        rfl
      refine pure_ (i := 7) (N := some 30) (v := ?_) (a' := ?_) (bb 12 255) rfl rfl (any_of HT_.out (by kernel_rfl)) (fun _ _ _ h => h) (Or.inl ⟨by rfl, ?_⟩) ?_ ?_
      rotate_left
      · intro w'
        go_simp
        with_reducible rfl
      rotate_left
      · simp only [Act.put, List.setIfInBounds_toArray, List.set_cons_zero, List.set_cons_succ, i64_w, i32_w]
        rfl
      refine one_ (i := 8) (N := some 31) (bb 12 511) rfl rfl (one_of HT_.out (by kernel_rfl)) (by decide) (fun K hK => ?_)
      refine goes_ Try.func42 (by kernel_rfl) rfl #[.slice A2 l2.length c2, .int .i64 (i : Int), .int .i64 a3] (by rfl) rfl rfl (by (try simp only [List.map_toArray, List.map_cons, List.map_nil]); first | done | rfl | (simp only [List.length_drop, List.length_take]; rfl)) ?_
      with_reducible refine (kilnlaw3_last.calls kl (fun k_ => k_ < w10.heap.size) _ _ l2 (i : Int) a3 t121 _ ?side1 A8).mono ?_
      (case side1 => exact Kd.V_mk HC2.out (Kd.F_below (Kd.C_F k30_heap HR2.out) (by repeat (first | (with_reducible first | exact HB.out | apply below_alloc | apply pw_below_drewN | apply below_drew1) | exact HB.out))))
      rintro e w13 ⟨v125, rfl, ho0, hb⟩
      obtain ⟨A9, c9, e9⟩ := Kd.V_slice ho0
      subst e9
      refine ⟨_, rfl, ?_⟩
      have n0_ := Aside0.mk (Kd.R_below (by (with_reducible repeat (first | apply Kd.R_alloc | apply Kd.R_drewN | apply Kd.R_drew)); exact HO123.out) hb)
      have n1_ := Aside0.mk (Kd.V_mono (ok' := fun _ => True) ho0 (fun _ _ => trivial))
      have n2_ := Aside0.mk (below_step (by repeat (first | (with_reducible first | exact HB.out | apply below_alloc | apply pw_below_drewN | apply below_drew1) | exact HB.out)) hb)
      clear HO123
      clear HB
      have HO123 := n0_
      have HO126 := n1_
      have HB := n2_
      clear n0_ n1_ n2_
      (try clear hb)
      (try clear hb2)
      (try clear hk)
      (try clear hi)
      (try clear ho0)
      refine hK.out _ _ (own_string (P := Try.prog) Try.underlying28 Try.underlying5 Try.underlying9 (Kd.own_of_R HO123.out)) (fun hHeld => ?_)
      clear hK K
      refine norm_ (a' := ?_) ?_ ?_
      rotate_left
      · show Act.put _ (some 31) _ = _
        simp only [Act.put, List.setIfInBounds_toArray, List.set_cons_zero, List.set_cons_succ, i64_w, i32_w]
        rfl
      refine one_ (i := 9) (N := some 32) (bb 12 1023) rfl rfl (one_of HT_.out (by kernel_rfl)) (by decide) (fun K hK => ?_)
      have hcv14 := Kd.C_string (P := Try.prog) (A := A9) (c := c9) Try.underlying28 Try.underlying5 Try.underlying9 (Kd.V_reads' HO126.out).2.2
      refine value_ (w1 := ?_) (v := ?_) (by rfl) rfl ?_ ?_
      rotate_left 2
      · go_simp
        constructor
        · rfl
        · rfl
      clear hcv14
      refine hK.out _ _ (own_string (P := Try.prog) Try.underlying28 Try.underlying5 Try.underlying9 (Kd.own_of_R HO123.out)) (fun hHeld => ?_)
      clear hK K
      refine norm_ (a' := ?_) ?_ ?_
      rotate_left
      · show Act.put _ (some 32) _ = _
        simp only [Act.put, List.setIfInBounds_toArray, List.set_cons_zero, List.set_cons_succ, i64_w, i32_w]
        rfl
      refine pure_ (i := 10) (N := some 33) (v := ?_) (a' := ?_) (bb 12 2047) rfl rfl (any_of HT_.out (by kernel_rfl)) (fun _ _ _ h => h) (Or.inl ⟨by rfl, ?_⟩) ?_ ?_
      rotate_left
      · intro w'
        go_simp
        with_reducible rfl
      rotate_left
      · simp only [Act.put, List.setIfInBounds_toArray, List.set_cons_zero, List.set_cons_succ, i64_w, i32_w]
        rfl
      refine pure_ (i := 11) (N := some 34) (v := ?_) (a' := ?_) (bb 12 4095) rfl rfl (any_of HT_.out (by kernel_rfl)) (fun _ _ _ h => h) (Or.inl ⟨by rfl, ?_⟩) ?_ ?_
      rotate_left
      · intro w'
        go_simp
        with_reducible rfl
      rotate_left
      · simp only [Act.put, List.setIfInBounds_toArray, List.set_cons_zero, List.set_cons_succ, i64_w, i32_w]
        rfl
      refine done_ (done_of HT_.out (by kernel_rfl)) ?_
      try go_wp2
      go_roundg (gk - 1)
      case measure => have := HI.out; have := HIn.out; omega
      case rel => exact ⟨i + 1, (by have hi_ := HIn.out; first | rfl | (simp; done) | (rw [show IntKind.i64.wrap ((i : Int) + 1) = (i : Int) + 1 from IntWalk.i64_in _ (by omega)]; rfl) | (rw [show wrap64 ((i : Int) + 1) = (i : Int) + 1 from by unfold wrap64; omega]; rfl)), ⟨by have := HI.out; have := HIn.out; omega⟩, _, ⟨HDn.out.chg (G := fun _ => False) (Chg.of_below HB.out) (fun _ _ => id)⟩, ⟨HXn.out.trans (Chg.of_below (F := fun _ => False) HB.out) (fun _ h => h.elim)⟩⟩
    · have hib : decide (i < n) = false := decide_eq_false hi
      go_wp2
      all_goals first | (exfalso; omega) | (go_ret; exact ⟨rfl, r', HD.out, HX.out⟩)
end Go.Proofs.Ytddnhcnkjcdfgaa.M

namespace Go.Proofs.Ytddnhcnkjcdfgaa.M
open Go.RowKit Go.Maps Go.Proofs.YtddnhcnkjcdfgaaW.PrintWords Go.Proofs.YtddnhcnkjcdfgaaW.PrintLast Go.Proofs.YtddnhcnkjcdfgaaW.PrintMore
open Go.Proofs.Ytddnhcnkjcdfgaa.P
attribute [local go_sem] max2_int min2_int max_two min_two max_three min_three max_four min_four
set_option linter.unusedVariables false
set_option linter.unusedSimpArgs false
end Go.Proofs.Ytddnhcnkjcdfgaa.M

namespace Go.Proofs.Ytddnhcnkjcdfgaa.M
open Go.RowKit Go.Maps Go.Proofs.YtddnhcnkjcdfgaaW.PrintWords Go.Proofs.YtddnhcnkjcdfgaaW.PrintLast Go.Proofs.YtddnhcnkjcdfgaaW.PrintMore
open Go.Proofs.Ytddnhcnkjcdfgaa.P
attribute [local go_sem] max2_int min2_int max_two min_two max_three min_three max_four min_four
set_option linter.unusedVariables false
set_option linter.unusedSimpArgs false
theorem info30 : (Try.prog.info? 30).map (fun i => (i.zero, i.size, i.bytes)) = some (some (.agg #[(.int .i64 0), (.slice none 0 0)]), 2, 32) := by kernel_rfl
mutual
def kilnlaw3_made.l0 : Nat → List (S30) → Int → List (S30) → Int → Option (Int × Int × (List (S30)))
  | 0, _, _, _, _ => none
  | k + 1, x1, x7, x8, x9 => if x9 < (x1.length : Int) then (kilnlaw3_made.j1 k x1 x7 x8 x9 (decide (x9 < 100))) else (kilnlaw3_made.j1 k x1 x7 x8 x9 false)
def kilnlaw3_made.j1 : Nat → List (S30) → Int → List (S30) → Int → Bool → Option (Int × Int × (List (S30)))
  | 0, _, _, _, _, _ => none
  | k + 1, x1, x7, x8, x9, x22 => if x22 = true then (if 0 ≤ x9 then (if x9 < (x1.length : Int) then ((kilnlaw3_mod.f ((rd_T30 x1 x9).f0) x7).bind fun t108 => ((kilnlaw3_sector.f k ((rd_T30 x1 x9).f1)).bind fun t110 => (if x8.length < 4398046511104 then (kilnlaw3_made.l0 k x1 x7 (x8 ++ [(⟨t108, t110⟩ : S30)]) (wrap64 (x9 + 1))) else (none)))) else (none)) else (none)) else (if x7 = 0 then (some (x7, x7, x8)) else (some (0, x7, x8)))
end
def kilnlaw3_made.f (k : Nat) (a0 : Int) (l1 : List (S30)) : Option (Int × Int × (List (S30))) := (kilnlaw3_mod.f a0 63).bind fun t106 => (kilnlaw3_made.l0 k l1 (wrap64 (2 + t106)) ([] : List (S30)) 0)
theorem kilnlaw3_made.mono_l : ∀ k, (∀ y0 y1 y2 y3, LeO (kilnlaw3_made.l0 k y0 y1 y2 y3) (kilnlaw3_made.l0 (k + 1) y0 y1 y2 y3)) ∧ (∀ y0 y1 y2 y3 y4, LeO (kilnlaw3_made.j1 k y0 y1 y2 y3 y4) (kilnlaw3_made.j1 (k + 1) y0 y1 y2 y3 y4))
  | 0 => ⟨fun _ _ _ _ r h => by simp [kilnlaw3_made.l0] at h, fun _ _ _ _ _ r h => by simp [kilnlaw3_made.j1] at h⟩
  | k + 1 => by
    obtain ⟨ih0, ih1⟩ := kilnlaw3_made.mono_l k
    refine ⟨?_, ?_⟩
    · intro y0 y1 y2 y3
      unfold kilnlaw3_made.l0
      repeat' first
      | (with_reducible exact ih0 _ _ _ _)
      | (with_reducible exact ih1 _ _ _ _ _)
      | (with_reducible exact kilnlaw3_sector.mono _ _)
      | (with_reducible exact LeO.refl _)
      | (with_reducible exact LeO.none _)
      | (with_reducible refine LeO.ite ?_ ?_)
      | (with_reducible refine LeO.bind ?_ (fun _ => ?_))
      | exact ih0 _ _ _ _
      | exact ih1 _ _ _ _ _
      | exact kilnlaw3_sector.mono _ _
      | exact LeO.none _
      | refine LeO.ite ?_ ?_
      | refine LeO.bind ?_ (fun _ => ?_)
    · intro y0 y1 y2 y3 y4
      unfold kilnlaw3_made.j1
      repeat' first
      | (with_reducible exact ih0 _ _ _ _)
      | (with_reducible exact ih1 _ _ _ _ _)
      | (with_reducible exact kilnlaw3_sector.mono _ _)
      | (with_reducible exact LeO.refl _)
      | (with_reducible exact LeO.none _)
      | (with_reducible refine LeO.ite ?_ ?_)
      | (with_reducible refine LeO.bind ?_ (fun _ => ?_))
      | exact ih0 _ _ _ _
      | exact ih1 _ _ _ _ _
      | exact kilnlaw3_sector.mono _ _
      | exact LeO.none _
      | refine LeO.ite ?_ ?_
      | refine LeO.bind ?_ (fun _ => ?_)
theorem kilnlaw3_made.mono : ∀ a0 a1 k, LeO (kilnlaw3_made.f k a0 a1) (kilnlaw3_made.f (k + 1) a0 a1) := by
  intro a0 a1 k
  obtain ⟨ih0, ih1⟩ := kilnlaw3_made.mono_l k
  unfold kilnlaw3_made.f
  repeat' first
      | (with_reducible exact ih0 _ _ _ _)
      | (with_reducible exact ih1 _ _ _ _ _)
      | (with_reducible exact kilnlaw3_sector.mono _ _)
      | (with_reducible exact LeO.refl _)
      | (with_reducible exact LeO.none _)
      | (with_reducible refine LeO.ite ?_ ?_)
      | (with_reducible refine LeO.bind ?_ (fun _ => ?_))
      | exact ih0 _ _ _ _
      | exact ih1 _ _ _ _ _
      | exact kilnlaw3_sector.mono _ _
      | exact LeO.none _
      | refine LeO.ite ?_ ?_
      | refine LeO.bind ?_ (fun _ => ?_)
def kilnlaw3_made.T6 : Bool × List (List Nat × List Nat) := (true, [([], []), ([], []), ([], []), ([1, 2], [1, 2]), ([3], [3]), ([4], [4]), ([], []), ([5, 6], [5, 6]), ([], []), ([], []), ([8, 9], [8, 9]), ([10], [10]), ([11], [11]), ([12, 7], [12]), ([7, 13], [7, 13]), ([14], [14]), ([0, 15, 13], [0, 15]), ([16, 16, 0, 1, 2, 3, 4, 5, 6, 7, 8, 9, 10, 11, 12, 13, 14, 15, 16], [0, 16])])
def kilnlaw3_made.B6 : List Nat := [0, 0, 0, 6, 14, 30, 0, 126, 0, 0, 768, 1792, 3840, 8190, 16382, 32766, 65535, 131071]
theorem kilnlaw3_made.tab6 : rtab .any (opsOf Try.f15 6) = kilnlaw3_made.T6 := by kernel_rfl
theorem kilnlaw3_made.bits6 : waitsOk kilnlaw3_made.T6.2 kilnlaw3_made.B6 = true := by kernel_rfl
set_option maxHeartbeats 8000000 in
set_option maxRecDepth 100000 in
theorem kilnlaw3_made.calls (k : Nat) (a0 : Int) (A1 : Option Addr) (c1 : Nat) (l1 : List (S30)) (r1 : Int) (r2 : Int) (r3 : List (S30)) (n : Nat) (h2 : 2 ≤ n) (hm : n ≤ 64) (hn : r2 = (n : Int)) (w : World) (hr1 : Kd.C k30 w A1 l1.length l1) (hc1 : l1.length ≤ c1) (h : kilnlaw3_made.f k a0 l1 = some (r1, r2, r3)) :
    Calls Try.prog 15 #[.int .i64 a0, .slice A1 l1.length c1] w fun e w' => ∃ (v2_ : Value) (g : Nat) (F : Nat → Prop) (base : Nat), e = .returned (.tuple #[.pointer (some ⟨g, 0, none⟩), .int .i64 (n : Int), v2_]) ∧ w.heap.size ≤ base ∧ DkAt w' base g F (DS.fresh n (List.replicate n zeros)) ∧ Kd.S k30 30 w' w.heap.size (fun k_ => ¬ F k_) v2_ r3 ∧ Below w.heap.size w w' := by
  have hu30 := Try.underlying30
  have HR1 := Aside0.mk hr1
  have HC1 := Aside0.mk hc1
  clear hr1 hc1
  have HB := Aside0.mk (Below.refl w.heap.size w)
  have H : ((kilnlaw3_mod.f a0 63).bind fun t106 => (kilnlaw3_made.l0 k l1 (wrap64 (2 + t106)) ([] : List (S30)) 0)) = some (r1, r2, r3) := h
  clear h
  replace H := Option.bind_eq_some_iff.mp H
  obtain ⟨t106, A30, H⟩ := H
  replace H : (kilnlaw3_made.l0 k l1 (wrap64 (2 + t106)) ([] : List (S30)) 0) = some (r1, r2, r3) := H
  have A3 := Aside0.mk A30
  clear A30
  have H' := Aside0.mk H
  clear H
  go_enter Try.func15, Try.ntmps15
  go_wp2_with (first | ((with_reducible refine gate_callee (f := 20) rfl ?_); refine goesL_ (some 13) rfl rfl Try.func20 (by kernel_rfl) rfl #[.int .i64 a0, .int .i64 63] rfl (by (try simp only [List.map_toArray, List.map_cons, List.map_nil]); first | done | rfl | (simp only [List.length_drop, List.length_take]; rfl)) ?_; (with_reducible refine (kilnlaw3_mod.calls a0 63 t106 _ A3.out).mono ?_); rintro e w' ⟨rfl, ⟨nd, rfl⟩⟩; refine ⟨_, rfl, ?_⟩))
  go_loopg [8, 9] k (fun kq v8 v9 w' => ∃ (x8_1 : List (S30)) (x9_1 : Int), v9 = .int .i64 x9_1 ∧ Aside0 (kilnlaw3_made.l0 kq l1 (wrap64 (2 + t106)) x8_1 x9_1 = some (r1, r2, r3)) ∧ Aside0 (kq ≤ k) ∧ Aside0 (Kd.S k30 30 w' w.heap.size (fun _ => True) v8 x8_1) ∧ Aside0 (Below w.heap.size w w'))
  case atStart => exact ⟨(([] : List (S30))), (0), (by first | rfl | (simp; done) | (simp [*]; done)), H', ⟨Nat.le_refl _⟩, ⟨by first | exact Kd.S_nil _ _ _ _ _ | exact Kd.N_nil _ _ _ _ _ | exact Kd.V_nil _ _ _ _ _ | exact Kd.Q_nil _ _ _ _ _ | exact Kd.R_nil _ _ _ _ _⟩, ⟨by repeat (first | (with_reducible first | exact HB.out | apply below_alloc | apply pw_below_drewN | apply below_drew1) | exact HB.out)⟩⟩
  case round =>
    clear H'
    try clear c1
    try clear c2
    try clear p2
    obtain ⟨x8_1, x9_1, rfl, HA, HK1, HO_8, HB⟩ := hrel
    cases gk with
    | zero => exact absurd HA.out (by simp [kilnlaw3_made.l0])
    | succ k1 =>
      have H := HA.out
      clear HA
      simp only [kilnlaw3_made.l0] at H
      have HC4 := Aside0.mk H
      clear H
      go_upto_region 4 with (fail)
      go_cut [22] (fun v22 wc => ∃ (kq : Nat) (x22_3 : Bool), v22 = .bool x22_3 ∧ Aside0 (kilnlaw3_made.j1 kq l1 (wrap64 (2 + t106)) x8_1 x9_1 x22_3 = some (r1, r2, r3)) ∧ Aside0 (kq ≤ k1) ∧ Aside0 (Kd.S k30 30 wc w.heap.size (fun _ => True) u8 x8_1) ∧ Aside0 (Below w.heap.size w wc))
      case first =>
        have H := HC4.out
        clear HC4
        by_cases c5 : x9_1 < (l1.length : Int)
        · rw [if_pos c5] at H
          have c5b0 : decide (x9_1 < (l1.length : Int)) = true := decide_eq_true c5
          clear c5
          (first | rw [c5b0] | (simp only [i64_w, i32_w]; rw [c5b0]) | skip)
          have H' := Aside0.mk H
          clear H
          go_wp2
          go_meet
          case rel => exact ⟨_, (decide (x9_1 < 100)), (by first | rfl | (simp; done) | (simp [*]; done)), H', ⟨by have := HK1.out; first | omega | exact Nat.le_refl _⟩, ⟨by (with_reducible repeat (first | apply Kd.S_alloc | apply Kd.S_drewN | apply Kd.S_drew)); exact HO_8.out⟩, ⟨by repeat (first | (with_reducible first | exact HB.out | apply below_alloc | apply pw_below_drewN | apply below_drew1) | exact HB.out)⟩⟩
        · rw [if_neg c5] at H
          have c5b0 : decide (x9_1 < (l1.length : Int)) = false := decide_eq_false c5
          clear c5
          (first | rw [c5b0] | (simp only [i64_w, i32_w]; rw [c5b0]) | skip)
          have H' := Aside0.mk H
          clear H
          go_wp2
          go_meet
          case rel => exact ⟨_, (false), (by first | rfl | (simp; done) | (simp [*]; done)), H', ⟨by have := HK1.out; first | omega | exact Nat.le_refl _⟩, ⟨by (with_reducible repeat (first | apply Kd.S_alloc | apply Kd.S_drewN | apply Kd.S_drew)); exact HO_8.out⟩, ⟨by repeat (first | (with_reducible first | exact HB.out | apply below_alloc | apply pw_below_drewN | apply below_drew1) | exact HB.out)⟩⟩
      case rest =>
        clear HC4
        try clear c1
        try clear c2
        try clear p2
        try clear c5
        try clear c5b0
        try clear p2
        obtain ⟨kq, x22_3, rfl, HA, HJ3, HO_8, HB⟩ := hcut
        cases kq with
        | zero => exact absurd HA.out (by simp [kilnlaw3_made.j1])
        | succ kj3 =>
          have H := HA.out
          clear HA
          simp only [kilnlaw3_made.j1] at H
          by_cases c6 : x22_3 = true
          · subst c6
            have H1 : (if 0 ≤ x9_1 then (if x9_1 < (l1.length : Int) then ((kilnlaw3_mod.f ((rd_T30 l1 x9_1).f0) (wrap64 (2 + t106))).bind fun t108 => ((kilnlaw3_sector.f kj3 ((rd_T30 l1 x9_1).f1)).bind fun t110 => (if x8_1.length < 4398046511104 then (kilnlaw3_made.l0 kj3 l1 (wrap64 (2 + t106)) (x8_1 ++ [(⟨t108, t110⟩ : S30)]) (wrap64 (x9_1 + 1))) else (none)))) else (none)) else (none)) = some (r1, r2, r3) := by rw [if_pos rfl] at H; exact H
            clear H
            have H := H1
            clear H1
            by_cases c7 : 0 ≤ x9_1
            · rw [if_pos c7] at H
              have c7b0 : decide (0 ≤ x9_1) = true := decide_eq_true c7
              clear c7
              by_cases c8 : x9_1 < (l1.length : Int)
              · rw [if_pos c8] at H
                have c8b0 : decide (x9_1 < (l1.length : Int)) = true := decide_eq_true c8
                clear c8
                replace H := Option.bind_eq_some_iff.mp H
                obtain ⟨t108, A90, H⟩ := H
                replace H : ((kilnlaw3_sector.f kj3 ((rd_T30 l1 x9_1).f1)).bind fun t110 => (if x8_1.length < 4398046511104 then (kilnlaw3_made.l0 kj3 l1 (wrap64 (2 + t106)) (x8_1 ++ [(⟨t108, t110⟩ : S30)]) (wrap64 (x9_1 + 1))) else (none))) = some (r1, r2, r3) := H
                have A9 := Aside0.mk A90
                clear A90
                replace H := Option.bind_eq_some_iff.mp H
                obtain ⟨t110, A100, H⟩ := H
                replace H : (if x8_1.length < 4398046511104 then (kilnlaw3_made.l0 kj3 l1 (wrap64 (2 + t106)) (x8_1 ++ [(⟨t108, t110⟩ : S30)]) (wrap64 (x9_1 + 1))) else (none)) = some (r1, r2, r3) := H
                have A10 := Aside0.mk A100
                clear A100
                by_cases c11 : x8_1.length < 4398046511104
                · rw [if_pos c11] at H
                  have LMc11 := Aside0.mk c11
                  clear c11
                  obtain ⟨y113, hy113⟩ : ∃ y_ : List (S30), y_ = (x8_1 ++ [(⟨t108, t110⟩ : S30)]) := ⟨_, rfl⟩
                  replace H : (kilnlaw3_made.l0 kj3 l1 (wrap64 (2 + t106)) y113 (wrap64 (x9_1 + 1))) = some (r1, r2, r3) := by first | (rw [hy113]; with_reducible exact H) | (have H2_ := (Option.bind_some _ _).symm.trans H; rw [hy113]; with_reducible exact H2_) | (have H2_ := (Option.bind_some _ _).symm.trans H; with_reducible exact H2_) | with_reducible exact H | (rw [hy113]; exact H) | exact H
                  have Ny113 := Aside0.mk hy113
                  clear hy113
                  have H' := Aside0.mk H
                  clear H
                  try go_wp2
                  have n0_ := Aside0.mk (Kd.S_drew HO_8.out)
                  have n1_ := Aside0.mk (below_drew1 HB.out)
                  clear HO_8
                  clear HB
                  have HO_8 := n0_
                  have HB := n1_
                  clear n0_ n1_
                  have p107 : 0 ≤ (x9_1 : Int) := of_decide_eq_true (by first | (with_reducible assumption) | assumption)
                  have q107 : x9_1 < (l1.length : Int) := of_decide_eq_true (by first | (with_reducible assumption) | assumption)
                  obtain ⟨ad107, A107_1, c107_1, e107, hx107_0, hx107_1, hl107_1, hi107_1⟩ := at_T30 HR1.out x9_1 p107 q107
                  have hw107_1 := hx107_1
                  have hw107_0 := hx107_0
                  cases e107
                  replace hx107_0 := (HB.out.cell (World.block_lt_of_cell? w _ hx107_0)).trans hx107_0
                  replace hx107_1 := (HB.out.cell (World.block_lt_of_cell? w _ hx107_1)).trans hx107_1
                  have HR107_1 := Aside0.mk hi107_1
                  have HC107_1 := Aside0.mk hl107_1
                  clear hi107_1 hl107_1
                  replace p107 := eq_true p107
                  replace q107 := eq_true q107
                  have p109 : 0 ≤ (x9_1 : Int) := of_decide_eq_true (by first | (with_reducible assumption) | assumption)
                  have q109 : x9_1 < (l1.length : Int) := of_decide_eq_true (by first | (with_reducible assumption) | assumption)
                  obtain ⟨ad109, A109_1, c109_1, e109, hx109_0, hx109_1, hl109_1, hi109_1⟩ := at_T30 HR1.out x9_1 p109 q109
                  have hw109_1 := hx109_1
                  have hw109_0 := hx109_0
                  obtain rfl : ad107 = ad109 := (by injection e109)
                  replace hx109_0 := (HB.out.cell (World.block_lt_of_cell? w _ hx109_0)).trans hx109_0
                  replace hx109_1 := (HB.out.cell (World.block_lt_of_cell? w _ hx109_1)).trans hx109_1
                  have HR109_1 := Aside0.mk hi109_1
                  have HC109_1 := Aside0.mk hl109_1
                  clear hi109_1 hl109_1
                  replace p109 := eq_true p109
                  replace q109 := eq_true q109
                  have ea_ := Option.some.inj (hx107_1.symm.trans hx109_1)
                  injection ea_ with ea_ en_ ec_
                  subst ea_
                  subst ec_
                  clear en_
                  refine start_ (n := 18) (S := fun w' => w'.cell? (ad107.add ((x9_1).toNat * 2)) = some (.int .i64 ((rd_T30 l1 x9_1).f0)) ∧ w'.cell? ⟨(ad107.add ((x9_1).toNat * 2)).block, (ad107.add ((x9_1).toNat * 2)).off + 1, none⟩ = some (.slice A107_1 ((rd_T30 l1 x9_1).f1).length c107_1) ∧ w'.cell? (ad107.add ((x9_1).toNat * 2)) = some (.int .i64 ((rd_T30 l1 x9_1).f0)) ∧ w'.cell? ⟨(ad107.add ((x9_1).toNat * 2)).block, (ad107.add ((x9_1).toNat * 2)).off + 1, none⟩ = some (.slice A107_1 ((rd_T30 l1 x9_1).f1).length c107_1)) (ds := []) (bb 18 0) (by kernel_rfl) rfl rfl ⟨((HB.out.cell (World.block_lt_of_cell? w _ hw107_0)).trans hw107_0), ((HB.out.cell (World.block_lt_of_cell? w _ hw107_1)).trans hw107_1), ((HB.out.cell (World.block_lt_of_cell? w _ hw109_0)).trans hw109_0), ((HB.out.cell (World.block_lt_of_cell? w _ hw109_1)).trans hw109_1)⟩ (fun hHeld => ?_); refine with_tabW kilnlaw3_made.tab6 kilnlaw3_made.bits6 (fun HT_ HW_ => ?_)
                  generalize wc.drew = w12 at HO_8 HB HR107_1 HR109_1 hx107_0 hx107_1 hx109_0 hx109_1 hHeld ⊢
                  refine pure_ (i := 0) (N := some 25) (v := ?_) (a' := ?_) (bb 18 1) rfl rfl (any_of HT_.out (by kernel_rfl)) (fun _ _ _ h => h) (Or.inl ⟨by rfl, ?_⟩) ?_ ?_
                  rotate_left
                  · intro w'
                    go_simp
                    with_reducible rfl
                  rotate_left
                  · simp only [Act.put, List.setIfInBounds_toArray, List.set_cons_zero, List.set_cons_succ, i64_w, i32_w]
                    rfl
                  refine pure_ (i := 1) (N := some 26) (v := ?_) (a' := ?_) (bb 18 3) rfl rfl (any_of HT_.out (by kernel_rfl)) (fun _ _ _ h => h) (Or.inl ⟨by rfl, ?_⟩) ?_ ?_
                  rotate_left
                  · intro w'
                    go_simp
                    with_reducible rfl
                  rotate_left
                  · simp only [Act.put, List.setIfInBounds_toArray, List.set_cons_zero, List.set_cons_succ, i64_w, i32_w]
                    rfl
                  refine pure_ (i := 2) (N := some 27) (v := ?_) (a' := ?_) (bb 18 7) rfl rfl (any_of HT_.out (by kernel_rfl)) (fun _ _ _ h => h) (Or.inl ⟨by rfl, ?_⟩) ?_ ?_
                  rotate_left
                  · intro w'
                    go_simp
                    with_reducible rfl
                  rotate_left
                  · simp only [Act.put, List.setIfInBounds_toArray, List.set_cons_zero, List.set_cons_succ, i64_w, i32_w]
                    rfl
                  refine pure_ (i := 3) (N := some 28) (v := ?_) (a' := ?_) (bb 18 15) rfl rfl (any_of HT_.out (by kernel_rfl)) (fun _ _ _ h => h) (Or.inl ⟨by rfl, ?_⟩) ?_ ?_
                  rotate_left
                  · intro w'
                    go_simp
                    with_reducible rfl
                  rotate_left
                  · simp only [Act.put, List.setIfInBounds_toArray, List.set_cons_zero, List.set_cons_succ, i64_w, i32_w]
                    rfl
                  refine pure_ (i := 4) (N := some 29) (v := ?_) (a' := ?_) (bb 18 31) rfl rfl (any_of HT_.out (by kernel_rfl)) (fun _ _ _ h => h) (Or.inl ⟨by rfl, ?_⟩) ?_ ?_
                  rotate_left
                  · intro w'
                    go_simp
                    with_reducible rfl
                  rotate_left
                  · simp only [Act.put, List.setIfInBounds_toArray, List.set_cons_zero, List.set_cons_succ, i64_w, i32_w]
                    rfl
                  refine pure_ (i := 6) (N := some 31) (v := ?_) (a' := ?_) (bb 18 95) rfl rfl (any_of HT_.out (by kernel_rfl)) (fun _ _ _ h => h) (Or.inl ⟨by rfl, ?_⟩) ?_ ?_
                  rotate_left
                  · intro w'
                    go_simp
                    with_reducible rfl
                  rotate_left
                  · simp only [Act.put, List.setIfInBounds_toArray, List.set_cons_zero, List.set_cons_succ, i64_w, i32_w]
                    rfl
                  refine pure_ (i := 8) (N := some 33) (v := ?_) (a' := ?_) (bb 18 351) rfl rfl (any_of HT_.out (by kernel_rfl)) (fun _ _ _ h => h) (Or.inl ⟨by rfl, ?_⟩) ?_ ?_
                  rotate_left
                  · intro w'
                    go_simp
                    with_reducible rfl
                  rotate_left
                  · simp only [Act.put, List.setIfInBounds_toArray, List.set_cons_zero, List.set_cons_succ, i64_w, i32_w]
                    rfl
                  refine pure_ (i := 9) (N := some 34) (v := ?_) (a' := ?_) (bb 18 863) rfl rfl (any_of HT_.out (by kernel_rfl)) (fun _ _ _ h => h) (Or.inl ⟨by rfl, ?_⟩) ?_ ?_
                  rotate_left
                  · intro w'
                    go_simp
                    with_reducible rfl
                  rotate_left
                  · simp only [Act.put, List.setIfInBounds_toArray, List.set_cons_zero, List.set_cons_succ, i64_w, i32_w]
                    rfl
                  refine pure_ (i := 10) (N := some 35) (v := ?_) (a' := ?_) (bb 18 1887) rfl rfl (any_of HT_.out (by kernel_rfl)) (fun _ _ _ h => h) (Or.inl ⟨by rfl, ?_⟩) ?_ ?_
                  rotate_left
                  · intro w'
                    go_simp
                    with_reducible rfl
                  rotate_left
                  · simp only [Act.put, List.setIfInBounds_toArray, List.set_cons_zero, List.set_cons_succ, i64_w, i32_w]
                    rfl
                  refine pure_ (i := 11) (N := some 36) (v := ?_) (a' := ?_) (bb 18 3935) rfl rfl (any_of HT_.out (by kernel_rfl)) (fun _ _ _ h => h) (Or.inl ⟨by rfl, ?_⟩) ?_ ?_
                  rotate_left
                  · intro w'
                    go_simp
                    with_reducible rfl
                  rotate_left
                  · simp only [Act.put, List.setIfInBounds_toArray, List.set_cons_zero, List.set_cons_succ, i64_w, i32_w]
                    rfl
                  refine take_ (i := 5) (N := some 30) (v := ?_) (a' := ?_) (bb 18 3967) rfl rfl (take_ofW HT_.out HW_.out (by kernel_rfl)) (fun _ _ _ h => h) (Or.inl ⟨by rfl, ?_⟩) hHeld ?_ ?_
                  rotate_left
                  · rintro w' ⟨s0, s1, s2, s3⟩
                    go_simp
                    with_reducible rfl
                  rotate_left
                  · simp only [Act.put, List.setIfInBounds_toArray, List.set_cons_zero, List.set_cons_succ, i64_w, i32_w]
                    rfl
                  refine take_ (i := 12) (N := some 37) (v := ?_) (a' := ?_) (bb 18 8063) rfl rfl (take_ofW HT_.out HW_.out (by kernel_rfl)) (fun _ _ _ h => h) (Or.inl ⟨by rfl, ?_⟩) hHeld ?_ ?_
                  rotate_left
                  · rintro w' ⟨s0, s1, s2, s3⟩
                    go_simp
                    with_reducible rfl
                  rotate_left
                  · simp only [Act.put, List.setIfInBounds_toArray, List.set_cons_zero, List.set_cons_succ, i64_w, i32_w]
                    rfl
                  refine one_ (i := 7) (N := some 32) (bb 18 8191) rfl rfl (one_of HT_.out (by kernel_rfl)) (by decide) (fun K hK => ?_)
                  refine goes_ Try.func20 (by kernel_rfl) rfl #[.int .i64 ((rd_T30 l1 x9_1).f0), .int .i64 (wrap64 (2 + t106))] (by rfl) rfl rfl (by (try simp only [List.map_toArray, List.map_cons, List.map_nil]); first | done | rfl | (simp only [List.length_drop, List.length_take]; rfl)) ?_
                  with_reducible refine (kilnlaw3_mod.calls ((rd_T30 l1 x9_1).f0) (wrap64 (2 + t106)) t108 _ A9.out).mono ?_
                  rintro e w' ⟨rfl, ⟨nd, rfl⟩⟩
                  refine ⟨_, rfl, ?_⟩
                  refine hK.out _ _ ⟨((HB.out.cell (World.block_lt_of_cell? w _ hw107_0)).trans hw107_0), ((HB.out.cell (World.block_lt_of_cell? w _ hw107_1)).trans hw107_1), ((HB.out.cell (World.block_lt_of_cell? w _ hw109_0)).trans hw109_0), ((HB.out.cell (World.block_lt_of_cell? w _ hw109_1)).trans hw109_1)⟩ (fun hHeld => ?_)
                  clear hK K
                  refine norm_ (a' := ?_) ?_ ?_
                  rotate_left
                  · show Act.put _ (some 32) _ = _
                    simp only [Act.put, List.setIfInBounds_toArray, List.set_cons_zero, List.set_cons_succ, i64_w, i32_w]
                    rfl
                  refine one_ (i := 13) (N := some 38) (bb 18 16383) rfl rfl (one_of HT_.out (by kernel_rfl)) (by decide) (fun K hK => ?_)
                  refine goes_ Try.func22 (by kernel_rfl) rfl #[.slice A107_1 ((rd_T30 l1 x9_1).f1).length c107_1] (by rfl) rfl rfl (by (try simp only [List.map_toArray, List.map_cons, List.map_nil]); first | done | rfl | (simp only [List.length_drop, List.length_take]; rfl)) ?_
                  with_reducible refine (kilnlaw3_sector.calls kj3 _ _ ((rd_T30 l1 x9_1).f1) t110 _ ?side1 ?side2 A10.out).mono ?_
                  (case side1 => repeat (first | exact (Kd.C_below HR109_1.out (by repeat (first | (with_reducible first | exact HB.out | apply below_alloc | apply pw_below_drewN | apply below_drew1) | exact HB.out))) | (with_reducible refine Kd.C_alloc ?_ _) | (with_reducible refine Kd.C_drewN ?_ _) | (with_reducible refine Kd.C_drew ?_)))
                  (case side2 => exact HC109_1.out)
                  rintro e w13 ⟨v111, rfl, ho0, hb⟩
                  refine ⟨_, rfl, ?_⟩
                  have n0_ := Aside0.mk (Kd.S_elder' (by (with_reducible repeat (first | apply Kd.S_alloc | apply Kd.S_drewN | apply Kd.S_drew)); exact HO_8.out) (Kd.R_base ho0) hb)
                  have n1_ := Aside0.mk (Kd.R_lower ho0 (below_size (by repeat (first | (with_reducible first | exact HB.out | apply below_alloc | apply pw_below_drewN | apply below_drew1) | exact HB.out))))
                  have n2_ := Aside0.mk (below_step (by repeat (first | (with_reducible first | exact HB.out | apply below_alloc | apply pw_below_drewN | apply below_drew1) | exact HB.out)) hb)
                  clear HO_8
                  clear HB
                  have HO_8 := n0_
                  have HO112 := n1_
                  have HB := n2_
                  clear n0_ n1_ n2_
                  (try clear hb)
                  (try clear hb2)
                  (try clear hk)
                  (try clear hi)
                  (try clear ho0)
                  obtain ⟨Ao14, co14, eo14⟩ := Kd.R_slice HO112.out
                  (first | subst eo14 | (injection eo14 with f1_ f2_ f3_; have f4_ := f1_.symm; have f5_ := f3_.symm; clear f1_ f2_ f3_; subst f4_; subst f5_))
                  refine hK.out _ _ ⟨((HB.out.cell (World.block_lt_of_cell? w _ hw107_0)).trans hw107_0), ((HB.out.cell (World.block_lt_of_cell? w _ hw107_1)).trans hw107_1), ((HB.out.cell (World.block_lt_of_cell? w _ hw109_0)).trans hw109_0), ((HB.out.cell (World.block_lt_of_cell? w _ hw109_1)).trans hw109_1)⟩ (fun hHeld => ?_)
                  clear hK K
                  refine norm_ (a' := ?_) ?_ ?_
                  rotate_left
                  · show Act.put _ (some 38) _ = _
                    simp only [Act.put, List.setIfInBounds_toArray, List.set_cons_zero, List.set_cons_succ, i64_w, i32_w]
                    rfl
                  refine pure_ (i := 14) (N := some 39) (v := ?_) (a' := ?_) (bb 18 32767) rfl rfl (any_of HT_.out (by kernel_rfl)) (fun _ _ _ h => h) (Or.inl ⟨by rfl, ?_⟩) ?_ ?_
                  rotate_left
                  · intro w'
                    go_simp
                    with_reducible rfl
                  rotate_left
                  · simp only [Act.put, List.setIfInBounds_toArray, List.set_cons_zero, List.set_cons_succ, i64_w, i32_w]
                    rfl
                  refine one_ (i := 15) (N := some 40) (bb 18 65535) rfl rfl (one_of HT_.out (by kernel_rfl)) (by decide) (fun K hK => ?_)
                  refine value_ (w1 := ?_) (v := ?_) (by rfl) rfl ?_ ?_
                  rotate_left 2
                  · go_simp
                    constructor
                    · rfl
                    · rfl
                  refine hK.out _ _ ⟨(World.cell?_alloc_lt _ _ _ (World.block_lt_of_cell? _ _ (((HB.out.cell (World.block_lt_of_cell? w _ hw107_0)).trans hw107_0)))).trans (((HB.out.cell (World.block_lt_of_cell? w _ hw107_0)).trans hw107_0)), (World.cell?_alloc_lt _ _ _ (World.block_lt_of_cell? _ _ (((HB.out.cell (World.block_lt_of_cell? w _ hw107_1)).trans hw107_1)))).trans (((HB.out.cell (World.block_lt_of_cell? w _ hw107_1)).trans hw107_1)), (World.cell?_alloc_lt _ _ _ (World.block_lt_of_cell? _ _ (((HB.out.cell (World.block_lt_of_cell? w _ hw109_0)).trans hw109_0)))).trans (((HB.out.cell (World.block_lt_of_cell? w _ hw109_0)).trans hw109_0)), (World.cell?_alloc_lt _ _ _ (World.block_lt_of_cell? _ _ (((HB.out.cell (World.block_lt_of_cell? w _ hw109_1)).trans hw109_1)))).trans (((HB.out.cell (World.block_lt_of_cell? w _ hw109_1)).trans hw109_1))⟩ (fun hHeld => ?_)
                  clear hK K
                  refine norm_ (a' := ?_) ?_ ?_
                  rotate_left
                  · show Act.put _ (some 40) _ = _
                    simp only [Act.put, List.setIfInBounds_toArray, List.set_cons_zero, List.set_cons_succ, i64_w, i32_w]
                    rfl
                  refine one_ (i := 16) (N := some 41) (bb 18 131071) rfl rfl (one_of HT_.out (by kernel_rfl)) (by decide) (fun K hK => ?_)
                  refine Kd.S_append_step k30 (w0 := w) w.heap.size (by rfl) (.tmp 25) (.tmp 40) 22 30 (.agg #[(.int .i64 0), (.slice none 0 0)]) 32 rfl Try.underlying22 info30 rfl (by decide) (by omega) u8 x8_1 (⟨t108, t110⟩ : S30) [.int .i64 t108, .slice Ao14 t110.length co14] (fun _ => True) (fun k_ => some k_ = (.slice Ao14 t110.length co14 : Value).ownBlock) rfl rfl ?aP (fun k_ hk_ => ((Kd.R_mono (ok' := fun k_ => ((fun _ => True)) k_ ∧ some k_ ≠ (u8 : Value).ownBlock) (Kd.R_apart' (HO112.out) (Kd.S_typed HO_8.out) (by decide)) (fun k_ hk => ⟨trivial, hk.2⟩))).1 k_ hk_.symm) ?aF ?aO ?aB ?aS ?aL ?_
                  (case aP => exact k30_mkM _ _ _ (⟨t108, t110⟩ : S30) (Kd.R_mono (Kd.R_tight rfl (Kd.R_mono (ok' := fun k_ => ((fun _ => True)) k_ ∧ some k_ ≠ (u8 : Value).ownBlock) (Kd.R_apart' (HO112.out) (Kd.S_typed HO_8.out) (by decide)) (fun k_ hk => ⟨trivial, hk.2⟩))) (fun _ h_ => h_)))
                  (case aB => exact (by repeat (first | (with_reducible first | exact HB.out | apply below_alloc | apply pw_below_drewN | apply below_drew1) | exact HB.out)))
                  (case aF => exact (fun _ _ => trivial))
                  (case aO => exact (by (with_reducible repeat (first | apply Kd.S_alloc | apply Kd.S_drewN | apply Kd.S_drew)); exact Kd.S_mono HO_8.out (fun k_ hk => ⟨trivial, fun e_ => hk.2 e_⟩)))
                  (case aS => exact (below_size (by repeat (first | (with_reducible first | exact HB.out | apply below_alloc | apply pw_below_drewN | apply below_drew1) | exact HB.out))))
                  (case aL => have := LMc11.out; omega)
                  intro v114 w15 ho hb hg hat
                  rw [← Ny113.out] at ho
                  have n0_ := Aside0.mk (hb)
                  have n1_ := Aside0.mk (ho)
                  clear HB
                  clear HO_8
                  clear HO112
                  have HB := n0_
                  have HO115 := n1_
                  clear n0_ n1_
                  clear ho hb hg hat
                  refine hK.out _ _ ⟨((HB.out.cell (World.block_lt_of_cell? w _ hw107_0)).trans hw107_0), ((HB.out.cell (World.block_lt_of_cell? w _ hw107_1)).trans hw107_1), ((HB.out.cell (World.block_lt_of_cell? w _ hw109_0)).trans hw109_0), ((HB.out.cell (World.block_lt_of_cell? w _ hw109_1)).trans hw109_1)⟩ (fun hHeld => ?_)
                  clear hK K
                  refine norm_ (a' := ?_) ?_ ?_
                  rotate_left
                  · show Act.put _ (some 41) _ = _
                    simp only [Act.put, List.setIfInBounds_toArray, List.set_cons_zero, List.set_cons_succ, i64_w, i32_w]
                    rfl
                  refine pure_ (i := 17) (N := some 8) (v := ?_) (a' := ?_) (bb 18 262143) rfl rfl (any_of HT_.out (by kernel_rfl)) (fun _ _ _ h => h) (Or.inl ⟨by rfl, ?_⟩) ?_ ?_
                  rotate_left
                  · intro w'
                    go_simp
                    with_reducible rfl
                  rotate_left
                  · simp only [Act.put, List.setIfInBounds_toArray, List.set_cons_zero, List.set_cons_succ, i64_w, i32_w]
                    rfl
                  refine done_ (done_of HT_.out (by kernel_rfl)) ?_
                  try go_wp2
                  go_roundg kj3
                  case measure => have := HK1.out; have := HJ3.out; omega
                  case rel => exact ⟨(y113), (wrap64 (x9_1 + 1)), (by first | rfl | (simp; done) | (simp [*]; done)), H', ⟨by have := HK1.out; have := HJ3.out; omega⟩, ⟨by (with_reducible repeat (first | apply Kd.S_alloc | apply Kd.S_drewN | apply Kd.S_drew)); exact HO115.out⟩, ⟨by repeat (first | (with_reducible first | exact HB.out | apply below_alloc | apply pw_below_drewN | apply below_drew1) | exact HB.out)⟩⟩
                · rw [if_neg c11] at H
                  exact absurd H (by simp)
              · rw [if_neg c8] at H
                exact absurd H (by simp)
            · rw [if_neg c7] at H
              exact absurd H (by simp)
          · replace c6 := Bool.eq_false_iff.mpr c6
            subst c6
            have H1 : (if (wrap64 (2 + t106)) = 0 then (some ((wrap64 (2 + t106)), (wrap64 (2 + t106)), x8_1)) else (some (0, (wrap64 (2 + t106)), x8_1))) = some (r1, r2, r3) := by rw [if_neg (show ¬ (false = true) by decide)] at H; exact H
            clear H
            have H := H1
            clear H1
            by_cases c16 : (wrap64 (2 + t106)) = 0
            · rw [if_pos c16] at H
              simp only [Option.some.injEq, Prod.mk.injEq] at H
              obtain ⟨rfl, rfl, rfl⟩ := H
              omega
            · rw [if_neg c16] at H
              clear c16
              simp only [Option.some.injEq, Prod.mk.injEq] at H
              obtain ⟨rfl, rfl, rfl⟩ := H
              have hNEW := Aside0.mk (fun W => (show Calls Try.prog 21 #[.int .i64 (wrap64 (2 + t106))] W _ from by rw [hn]; exact new_calls n W h2 (by omega)))
              have HN := Aside0.mk hn
              clear hn
              go_wp2_with (go_at_call 21; (with_reducible refine (hNEW.out _).mono ?_); rintro e w30 ⟨g, F, rfl, hd, hb⟩; have HDk := Aside0.mk hd; have HBk := Aside0.mk hb; clear hd hb)
              go_ret3
              rw [HN.out]
              have HB1 := Aside0.mk (show Below w.heap.size w _ from by repeat (first | (with_reducible first | exact HB.out | apply below_alloc | apply pw_below_drewN | apply below_drew1) | exact HB.out))
              refine ⟨_, g, F, _, by first | rfl | (simp; done), (below_size HB1.out), HDk.out, ?_, below_step HB1.out HBk.out⟩
              refine Kd.S_mono (Kd.S_below (Kd.S_bound ((show Kd.S k30 30 _ w.heap.size _ _ _ from by (with_reducible repeat (first | apply Kd.S_alloc | apply Kd.S_drewN | apply Kd.S_drew)); exact HO_8.out))) HBk.out) (fun k_ hk hF => ?_)
              have h_ := (HDk.out.foot k_ hF).1
              have h1_ := hk.2
              omega
end Go.Proofs.Ytddnhcnkjcdfgaa.M

namespace Go.Proofs.Ytddnhcnkjcdfgaa.M
open Go.RowKit Go.Maps Go.Proofs.YtddnhcnkjcdfgaaW.PrintWords Go.Proofs.YtddnhcnkjcdfgaaW.PrintLast Go.Proofs.YtddnhcnkjcdfgaaW.PrintMore
open Go.Proofs.Ytddnhcnkjcdfgaa.P
attribute [local go_sem] max2_int min2_int max_two min_two max_three min_three max_four min_four
set_option linter.unusedVariables false
set_option linter.unusedSimpArgs false
theorem row_at {w : World} {base : Nat} {ok : Nat → Prop} {A : Option Addr} {c : Nat} {out : List S30} (h : Kd.S k30 30 w base ok (.slice A out.length c) out) (j : Nat) (hj : j < out.length) (h5 : (rd_T30 out (j : Int)).f1.length = 512) :
    ∃ go b1 c1, A = some ⟨go, 0, none⟩ ∧ w.cell? ⟨go, j * 2, none⟩ = some (.int .i64 (rd_T30 out (j : Int)).f0) ∧ w.cell? ⟨go, j * 2 + 1, none⟩ = some (.slice (some ⟨b1, 0, none⟩) 512 c1) ∧ (Kd.int .u8).C w (some ⟨b1, 0, none⟩) 512 (rd_T30 out (j : Int)).f1 ∧ ok b1 ∧ ok go ∧ go < w.heap.size := by
  obtain ⟨go, c0, e0, _, hlt, _⟩ := Kd.S_form h (by omega)
  injection e0 with e0 _ _
  subst e0
  obtain ⟨ad, A1, c1, e, hx0, hx1, hl1, hi1⟩ := at_T30 (Kd.S_reads' h).2.2 (j : Int) (by omega) (by omega)
  obtain rfl := Option.some.inj e
  obtain ⟨ce, hce, hMe, hcc⟩ := Kd.S_get h z30 (j : Int) (by omega) (by omega)
  obtain ⟨ve, rfl, ge⟩ := k30_openM hMe
  have hv := hcc 1 _ rfl
  rw [add_field _ _ 1 (by omega)] at hv
  replace hv := Option.some.inj (hv.symm.trans hx1)
  rw [hv] at ge
  rw [Int.toNat_natCast] at hx0 hx1
  have ez : (⟨go, 0, none⟩ : Addr).add (j * 2) = ⟨go, j * 2, none⟩ := by simp [Addr.add]; intro h; omega
  rw [ez] at hx0 hx1
  have ge' : Kd.R (Kd.int .u8) 5 w base _ (.slice A1 (rd_T30 out (j : Int)).f1.length c1) ((rd_T30 out (j : Int)).f1) := ge
  obtain ⟨b1, c2, e1, _, _, _⟩ := Kd.R_form ge' (by omega)
  injection e1 with e1 _ e2
  subst e1
  rw [h5] at hx1 hi1
  exact ⟨go, b1, c1, rfl, hx0, hx1, hi1, (ge'.1 b1 rfl).1, (Kd.S_R h).1 go rfl, hlt⟩
theorem Chg.cell {F : Nat → Prop} {a b : World} (h : Chg F a b) {x : Nat} (hn : ¬ F x) (hlt : x < a.heap.size) (o : Nat) : b.cell? ⟨x, o, none⟩ = a.cell? ⟨x, o, none⟩ := by
  unfold World.cell?
  simp only [h.block x hlt hn]
def runD (n : Nat) (out : List S30) (fl : Int) : Nat → DS
  | 0 => DS.fresh n (List.replicate n zeros)
  | j + 1 => if (j : Int) = fl then ((runD n out fl j).put (rd_T30 out (j : Int)).f0.toNat (rd_T30 out (j : Int)).f1).flush else (runD n out fl j).put (rd_T30 out (j : Int)).f0.toNat (rd_T30 out (j : Int)).f1
theorem runD_n (n : Nat) (out : List S30) (fl : Int) : ∀ j, (runD n out fl j).n = n
  | 0 => rfl
  | j + 1 => by
    unfold runD
    split
    · exact runD_n n out fl j
    · exact runD_n n out fl j
theorem runD_c (n : Nat) (out : List S30) (fl : Int) : ∀ j, (runD n out fl j).c ≤ j
  | 0 => Nat.le_refl _
  | j + 1 => by
    unfold runD
    split
    · exact Nat.zero_le _
    · exact Nat.succ_le_succ (runD_c n out fl j)
end Go.Proofs.Ytddnhcnkjcdfgaa.M

namespace Go.Proofs.Ytddnhcnkjcdfgaa.M
open Go.RowKit Go.Maps Go.Proofs.YtddnhcnkjcdfgaaW.PrintWords Go.Proofs.YtddnhcnkjcdfgaaW.PrintLast Go.Proofs.YtddnhcnkjcdfgaaW.PrintMore
open Go.Proofs.Ytddnhcnkjcdfgaa.P
set_option linter.unusedVariables false
set_option linter.unusedSimpArgs false
theorem w64 (x : Int) (h : -9223372036854775808 ≤ x) (h2 : x < 9223372036854775808) : wrap64 x = x := by unfold wrap64; omega
theorem mod_ok (a m : Int) (hm : 0 < m) (hM : m < 4611686018427387904) : ∃ r, kilnlaw3_mod.f a m = some r ∧ 0 ≤ r ∧ r < m := by
  unfold kilnlaw3_mod.f
  rw [if_neg (by omega)]
  have h1 : Int.tmod a m < m := Int.tmod_lt_of_pos a hm
  have h2 : -m < Int.tmod a m := by
    have h3 := Int.tmod_lt_of_pos (-a) hm
    rw [Int.neg_tmod] at h3
    omega
  by_cases h : Int.tmod a m < 0
  · rw [if_pos h, w64 _ (by omega) (by omega)]
    exact ⟨_, rfl, by omega, by omega⟩
  · rw [if_neg h]
    exact ⟨_, rfl, by omega, h1⟩
theorem up_ {α : Type} {g : Nat → Option α} (h : ∀ k, LeO (g k) (g (k + 1))) (k : Nat) : ∀ d, LeO (g k) (g (k + d))
  | 0 => LeO.refl _
  | d + 1 => (up_ h k d).trans (h (k + d))
theorem sector_l0 (x0 : List Int) : ∀ (m : Nat) (x3 : List Int) (j : Nat), x3.length = 512 → j + m = 512 → ∃ r, kilnlaw3_sector.l0 (m + 1) x0 x3 (j : Int) = some r ∧ r.length = 512
  | 0, x3, j, hl, hj => by
    unfold kilnlaw3_sector.l0
    rw [if_neg (by omega)]
    exact ⟨_, rfl, hl⟩
  | m + 1, x3, j, hl, hj => by
    unfold kilnlaw3_sector.l0
    rw [if_pos (by omega)]
    by_cases h0 : (x0.length : Int) > 0
    · rw [if_pos h0, if_neg (by omega), if_pos (Int.tmod_nonneg _ (by omega)), if_pos (Int.tmod_lt_of_pos _ h0), if_pos (by omega), w64 _ (by omega) (by omega)]
      exact sector_l0 x0 m _ (j + 1) (by rw [List.length_set]; exact hl) (by omega)
    · rw [if_neg h0]
      exact ⟨_, rfl, hl⟩
theorem sector_ok (b : List Int) (d : Nat) : ∃ r, kilnlaw3_sector.f (513 + d) b = some r ∧ r.length = 512 := by
  obtain ⟨r, h, hl⟩ := sector_l0 b 512 (List.replicate 512 0) 0 (by rw [List.length_replicate]) (by omega)
  refine ⟨r, up_ (g := fun k => kilnlaw3_sector.f k b) (kilnlaw3_sector.mono b) 513 d r ?_, hl⟩
  show kilnlaw3_sector.f 513 b = some r
  unfold kilnlaw3_sector.f
  rw [if_pos (by decide)]
  exact h
def lastOf (out : List S30) (i : Int) : Nat → List Int
  | 0 => zeros
  | m + 1 => if (rd_T30 out (m : Int)).f0 = i then (rd_T30 out (m : Int)).f1 else lastOf out i m
theorem last_l0 (out : List S30) (i : Int) (hN : out.length ≤ 1000000) : ∀ m, m ≤ out.length → kilnlaw3_last.l0 (m + 1) out i ((m : Int) - 1) = some (lastOf out i m)
  | 0, _ => by
    unfold kilnlaw3_last.l0
    rw [if_neg (by omega), if_pos (by decide)]
    rfl
  | m + 1, h => by
    unfold kilnlaw3_last.l0
    rw [show ((m + 1 : Nat) : Int) - 1 = (m : Int) by omega, if_pos (by omega), if_pos (by omega), if_pos (by omega), lastOf]
    by_cases e : (rd_T30 out (m : Int)).f0 = i
    · rw [if_pos e, if_pos e]
    · rw [if_neg e, if_neg e, w64 _ (by omega) (by omega)]
      exact last_l0 out i hN m (by omega)
theorem last_ok (out : List S30) (i : Int) (hN : out.length ≤ 1000000) (m : Nat) (h : m ≤ out.length) : kilnlaw3_last.f (m + 1) out i (m : Int) = some (lastOf out i m) := by
  unfold kilnlaw3_last.f
  rw [w64 _ (by omega) (by omega)]
  exact last_l0 out i hN m h
theorem cur_put (s : DS) (i : Nat) (b : List Int) (j : Nat) : (s.put i b).cur j = if j = i then b else s.cur j := by
  unfold DS.cur DS.put
  by_cases e : j = i
  · subst e; simp
  · simp [e]
theorem cur_flush (s : DS) (j : Nat) (hj : j < s.n) : s.flush.cur j = s.cur j := by
  have h1 : s.flush.cur j = ((List.range s.n).map s.cur).getD j [] := rfl
  rw [h1, List.getD_eq_getElem?_getD, List.getElem?_map, List.getElem?_range hj]
  rfl
theorem runD_cur (n : Nat) (out : List S30) (fl : Int) (hp : ∀ j, j < out.length → 0 ≤ (rd_T30 out (j : Int)).f0) (i : Nat) (hi : i < n) : ∀ j, j ≤ out.length → (runD n out fl j).cur i = lastOf out (i : Int) j
  | 0, _ => by
    show (List.replicate n zeros).getD i [] = zeros
    rw [List.getD_eq_getElem?_getD, List.getElem?_replicate, if_pos hi]
    rfl
  | j + 1, h => by
    have ih := runD_cur n out fl hp i hi j (by omega)
    have h0 := hp j (by omega)
    have key : ((runD n out fl j).put (rd_T30 out (j : Int)).f0.toNat (rd_T30 out (j : Int)).f1).cur i = lastOf out (i : Int) (j + 1) := by
      rw [cur_put, ih, lastOf]
      by_cases e : (rd_T30 out (j : Int)).f0 = (i : Int)
      · rw [if_pos e, if_pos (by rw [e]; rfl)]
      · rw [if_neg e, if_neg (by omega)]
    unfold runD
    split
    · rw [cur_flush _ _ (by show i < (runD n out fl j).n; rw [runD_n]; exact hi)]; exact key
    · exact key
def Good (n : Nat) (out : List S30) : Prop := ∀ x ∈ out, (∃ i : Nat, i < n ∧ x.f0 = (i : Int)) ∧ x.f1.length = 512
theorem made_end (l1 : List S30) (n : Nat) (hn : 2 ≤ n) (x8 : List S30) (x9 : Int) : kilnlaw3_made.j1 1 l1 (n : Int) x8 x9 false = some (0, (n : Int), x8) := by
  unfold kilnlaw3_made.j1
  rw [if_neg (by decide), if_neg (by omega)]
theorem made_l0 (l1 : List S30) (n : Nat) (hn : 2 ≤ n) (hm : n ≤ 64) : ∀ (m : Nat) (x8 : List S30) (j : Nat), x8.length = j → j + m = 100 → Good n x8 → ∃ k out, kilnlaw3_made.l0 k l1 (n : Int) x8 (j : Int) = some (0, (n : Int), out) ∧ out.length ≤ 100 ∧ Good n out
  | 0, x8, j, hl, hj, hg => by
    refine ⟨2, x8, ?_, by omega, hg⟩
    unfold kilnlaw3_made.l0
    rw [show decide ((j : Int) < 100) = false from decide_eq_false (by omega), made_end l1 n hn]
    split <;> rfl
  | m + 1, x8, j, hl, hj, hg => by
    by_cases hc : (j : Int) < (l1.length : Int)
    · obtain ⟨r, hr, hr0, hr1⟩ := mod_ok (rd_T30 l1 (j : Int)).f0 (n : Int) (by omega) (by omega)
      have hsec := fun d => sector_ok (rd_T30 l1 (j : Int)).f1 d
      obtain ⟨b, _, hbl⟩ := hsec 0
      obtain ⟨b, hb0, hbl⟩ := hsec 0
      obtain ⟨k, out, hk, ho, hgo⟩ := made_l0 l1 n hn hm m (x8 ++ [⟨r, b⟩]) (j + 1) (by rw [List.length_append]; simp [hl]) (by omega) (by
        intro x hx
        rcases List.mem_append.1 hx with h | h
        · exact hg x h
        · obtain rfl := List.mem_singleton.1 h
          exact ⟨⟨r.toNat, by omega, by show r = _; omega⟩, hbl⟩)
      refine ⟨k + 513 + 2, out, ?_, ho, hgo⟩
      unfold kilnlaw3_made.l0
      rw [if_pos hc, show decide ((j : Int) < 100) = true from decide_eq_true (by omega)]
      unfold kilnlaw3_made.j1
      rw [if_pos rfl, if_pos (by omega), if_pos hc, hr, Option.bind_some]
      have hb1 : kilnlaw3_sector.f (k + 513) (rd_T30 l1 (j : Int)).f1 = some b := by
        have := up_ (g := fun k => kilnlaw3_sector.f k (rd_T30 l1 (j : Int)).f1) (kilnlaw3_sector.mono _) 513 k b hb0
        rw [show k + 513 = 513 + k by omega]
        exact this
      rw [hb1, Option.bind_some, if_pos (by omega), w64 _ (by omega) (by omega)]
      have h_ := up_ (g := fun k => kilnlaw3_made.l0 k l1 (n : Int) (x8 ++ [⟨r, b⟩]) ((j + 1 : Nat) : Int)) (fun k => (kilnlaw3_made.mono_l k).1 _ _ _ _) k 513
      have h2_ := h_ _ hk
      rw [show (j : Int) + 1 = ((j + 1 : Nat) : Int) from by omega]
      first
        | with_reducible exact h2_
        | fail
    · refine ⟨2, x8, ?_, by omega, hg⟩
      unfold kilnlaw3_made.l0
      rw [if_neg hc, made_end l1 n hn]
theorem made_ok (a0 : Int) (l1 : List S30) : ∃ k n out, kilnlaw3_made.f k a0 l1 = some (0, ((n : Nat) : Int), out) ∧ 2 ≤ n ∧ n ≤ 64 ∧ out.length ≤ 100 ∧ Good n out := by
  obtain ⟨r, hr, hr0, hr1⟩ := mod_ok a0 63 (by omega) (by omega)
  obtain ⟨k, out, hk, ho, hg⟩ := made_l0 l1 (r.toNat + 2) (by omega) (by omega) 100 [] 0 rfl rfl (fun x hx => by cases hx)
  refine ⟨k, r.toNat + 2, out, ?_, by omega, by omega, ho, hg⟩
  unfold kilnlaw3_made.f
  rw [hr, Option.bind_some, w64 _ (by omega) (by omega), show 2 + r = ((r.toNat + 2 : Nat) : Int) by omega]
  exact hk
theorem Good.at_ {n : Nat} {out : List S30} (h : Good n out) (j : Nat) (hj : j < out.length) : (∃ i : Nat, i < n ∧ (rd_T30 out (j : Int)).f0 = (i : Int)) ∧ (rd_T30 out (j : Int)).f1.length = 512 := by
  refine h _ ?_
  unfold rd_T30
  rw [Int.toNat_natCast, List.getD_eq_getElem?_getD, List.getElem?_eq_getElem hj]
  exact List.getElem_mem hj
end Go.Proofs.Ytddnhcnkjcdfgaa.M

namespace Go.Proofs.Ytddnhcnkjcdfgaa.M
open Go.RowKit Go.Maps Go.Proofs.YtddnhcnkjcdfgaaW.PrintWords Go.Proofs.YtddnhcnkjcdfgaaW.PrintLast Go.Proofs.YtddnhcnkjcdfgaaW.PrintMore
open Go.ChangeMaps (setBlock)
attribute [local go_sem] max2_int min2_int max_two min_two
set_option linter.unusedVariables false
set_option linter.unusedSimpArgs false
end Go.Proofs.Ytddnhcnkjcdfgaa.M

namespace Go.Proofs.Ytddnhcnkjcdfgaa.M
open Go.RowKit Go.Maps Go.Proofs.YtddnhcnkjcdfgaaW.PrintWords Go.Proofs.YtddnhcnkjcdfgaaW.PrintLast Go.Proofs.YtddnhcnkjcdfgaaW.PrintMore
open Go.Proofs.Ytddnhcnkjcdfgaa.P
attribute [local go_sem] max2_int min2_int max_two min_two max_three min_three max_four min_four
set_option linter.unusedVariables false
set_option linter.unusedSimpArgs false
structure St (s : DS) (m i : Nat) (B : List Int) (c : Nat) : Prop where
  n : s.n = m
  W : s.W i = []
  L : s.L.getD i [] = B
  c : s.c ≤ c
theorem St.put {s : DS} {m i c : Nat} {B : List Int} (h : St s m i B c) (j : Nat) (b : List Int) (hj : j ≠ i) : St (s.put j b) m i B (c + 1) :=
  ⟨h.n, by show (if i = j then s.W j ++ [b] else s.W i) = []; rw [if_neg (Ne.symm hj)]; exact h.W, h.L, Nat.succ_le_succ h.c⟩
theorem St.mono {s : DS} {m i c c' : Nat} {B : List Int} (h : St s m i B c) (hc : c ≤ c') : St s m i B c' := ⟨h.n, h.W, h.L, Nat.le_trans h.c hc⟩
theorem St.cur {s : DS} {m i c : Nat} {B : List Int} (h : St s m i B c) : s.cur i = B := by rw [cur_nil h.W, h.L]
theorem St.reads {s : DS} {m i c : Nat} {B : List Int} (h : St s m i B c) : St s.reads m i B c := ⟨h.n, h.W, h.L, h.c⟩
theorem St.start {n i : Nat} {B : List Int} (hi : i < n) (L : List (List Int)) : St ((DS.fresh n L).put i B).flush n i B 0 := by
  refine ⟨rfl, rfl, ?_, Nat.le_refl _⟩
  show ((List.range n).map ((DS.fresh n L).put i B).cur).getD i [] = B
  rw [List.getD_eq_getElem?_getD, List.getElem?_map, List.getElem?_range hi]
  show ((DS.fresh n L).put i B).cur i = B
  rw [cur_put, if_pos rfl]
end Go.Proofs.Ytddnhcnkjcdfgaa.M

namespace Go.Proofs.Ytddnhcnkjcdfgaa.M
open Go.RowKit Go.Maps Go.Proofs.YtddnhcnkjcdfgaaW.PrintWords Go.Proofs.YtddnhcnkjcdfgaaW.PrintLast Go.Proofs.YtddnhcnkjcdfgaaW.PrintMore
set_option linter.unusedVariables false
set_option linter.unusedSimpArgs false
theorem sectors_at (g : Nat) (w : World) (base : Nat) (F : Nat → Prop) (s : DS) (h : DkAt w base g F s) :
    Calls Try.prog 29 #[.pointer (some ⟨g, 0, none⟩)] w fun e w' => e = .returned (.int .i64 (s.n : Int)) ∧ w' = w := by
  obtain ⟨lb, cp, mb, f, k, D, h1, h2⟩ := h
  have hg0 : w.cell? ⟨g, 0, none⟩ = some (.slice (some ⟨lb, 0, none⟩) s.n cp) := blk_cell h1.hd 0
  clear h1 h2
  generalize s.n = n at *
  go_enter Try.func29, Try.ntmps29
  go_wp2
  go_ret
  exact ⟨rfl, rfl⟩
theorem fresh_in {w : World} {base lb cp n : Nat} {L : List (List Int)} (hr : Rs w base (.slice (some ⟨lb, 0, none⟩) n cp) L) (hb : base ≤ w.heap.size) (h2 : 2 ≤ n) (hm : n ≤ 65536) :
    DkIn ((w.alloc (.map #[] 0)).alloc (.cells #[.slice (some ⟨lb, 0, none⟩) n cp, .map (some w.heap.size), .int .i64 0, .int .i64 0, .int .i64 0] 89)) base (w.heap.size + 1) (DS.fresh n L) lb cp w.heap.size (fun _ => .slice none 0 0) 0 (.map []) := by
  have hs : (w.alloc (.map #[] 0)).heap.size = w.heap.size + 1 := by simp
  refine ⟨?_, ?_, ?_, Nat.le_refl _, fun i _ => rfl, fun kl h => by simp [Maps.has] at h, fun i _ => ⟨fun k hk => by simp [Value.ownBlock] at hk, OwnRow.none_ _ _ _ _ _⟩, fun i _ => Nat.le_refl _, fun i j b _ _ h => by simp [Value.ownBlock] at h, fun i _ => by simp [Value.ownBlock], by omega, hb, h2, hm⟩
  · have := heap_alloc_new (w.alloc (.map #[] 0)) (.cells #[.slice (some ⟨lb, 0, none⟩) n cp, .map (some w.heap.size), .int .i64 0, .int .i64 0, .int .i64 0] 89)
    rw [hs] at this
    exact this
  · exact (hr.below (below_alloc (Below.refl _ _) _)).below (below_alloc (Below.refl _ _) _)
  · exact (World.ownsMap_made w _ _ _).alloc _
theorem take_set2 {α : Type} (L : List α) (z d : α) (i : Nat) (hi : i < L.length) : (L.take i ++ List.replicate (L.length - i) z).set i (L.getD i d) = L.take (i + 1) ++ List.replicate (L.length - (i + 1)) z := by
  have hl : (L.take i).length = i := by rw [List.length_take]; omega
  rw [List.set_append_right _ _ (by omega), hl, Nat.sub_self]
  obtain ⟨m, hm⟩ : ∃ m, L.length - i = m + 1 := ⟨L.length - i - 1, by omega⟩
  rw [hm, List.replicate_succ, List.set_cons_zero, show L.length - (i + 1) = m by omega, List.take_succ_eq_append_getElem hi, List.getD_eq_getElem?_getD, List.getElem?_eq_getElem hi]
  simp only [List.append_assoc, List.singleton_append, Option.getD_some]
set_option maxHeartbeats 4000000 in
set_option maxRecDepth 100000 in
theorem load_calls (A : Option Addr) (c : Nat) (imgs : List (List Int)) (w : World) (h2 : 2 ≤ imgs.length) (hm : imgs.length ≤ 65536) (hC : KB.C w A imgs.length imgs) (hl : ∀ i, i < imgs.length → (imgs.getD i []).length = 512) :
    Calls Try.prog 28 #[.slice A imgs.length c] w fun e w' => ∃ g F, e = .returned (.tuple #[.pointer (some ⟨g, 0, none⟩), .int .i64 0]) ∧ DkAt w' w.heap.size g F (DS.fresh imgs.length imgs) ∧ Below w.heap.size w w' := by
  obtain ⟨n, hn⟩ : ∃ n, n = imgs.length := ⟨_, rfl⟩
  rw [← hn] at h2 hm hC hl ⊢
  have Hmany := Aside0.mk (fun (W : World) => (show Calls Try.prog 43 #[.int .i64 (n : Int)] W fun e w' => e = .returned (.bool true) ∧ w' = W from by
    have h_ := many_calls (n : Int) W
    rw [show decide (2 ≤ (n : Int) ∧ (n : Int) ≤ 65536) = true from decide_eq_true (by omega)] at h_
    exact h_))
  have H2 := Aside0.mk h2
  have HM := Aside0.mk hm
  have HC := Aside0.mk hC
  have HL := Aside0.mk hl
  have HN := Aside0.mk hn
  have hmm := @run_makeMap Try.prog
  have hz := Aside0.mk zeros_nums
  clear h2 hm hC hl hn
  go_enter Try.func28, Try.ntmps28
  go_upto_region 4 with (first
    | (go_at_call 43; (with_reducible refine (Hmany.out _).mono ?_); rintro e w1 ⟨rfl, hw_⟩; subst hw_)
    | (at_make; refine Kd.R_make sec (w0 := w1) w1.heap.size 91 rfl (N := 13) rfl 86 (.tmp 12) (.tmp 12) rfl (n : Int) rfl rfl Try.underlying86 (.agg (Array.replicate 512 (.int .u8 0))) 512 info91 (by simp [sec, Value.cells]) (by decide) (by decide) zeros (ok := fun _ => True) (okp := fun _ => True) ?mz (fun _ h => h) trivial (by omega) ?ml (Below.refl _ _) (Nat.le_refl _) ?_; (case mz => exact ⟨zeros_len, hz.out.symm⟩); (case ml => have := HM.out; omega); intro v8 w2 hr hb hg hat; obtain ⟨lb, cp, e8, hlb_, _, _⟩ := Kd.R_form hr (by rw [List.length_replicate]; have := H2.out; omega); rw [List.length_replicate, Int.toNat_natCast] at e8; subst e8; rw [Int.toNat_natCast] at hr; have HR := Aside0.mk (Rs.of hr); have HB := Aside0.mk hb; have HLB := Aside0.mk hlb_; clear hr hb hg hat hlb_))
  have HD0 := Aside0.mk (fresh_in HR.out (below_size HB.out) H2.out HM.out)
  have HB0 := Aside0.mk (below_alloc (below_alloc HB.out (.map #[] 0)) (.cells #[.slice (some ⟨lb, 0, none⟩) n cp, .map (some w2.heap.size), .int .i64 0, .int .i64 0, .int .i64 0] 89))
  clear HR HB Hmany hmm
  generalize hgg : w2.heap.size + 1 = g at HD0 ⊢
  generalize (w2.alloc (.map #[] 0)).alloc (.cells #[.slice (some ⟨lb, 0, none⟩) n cp, .map (some w2.heap.size), .int .i64 0, .int .i64 0, .int .i64 0] 89) = w5 at HD0 HB0 ⊢
  generalize w2.heap.size = mb at HD0 ⊢
  clear hgg
  go_wp2
  go_loopg [19] n (fun kq v19 wr => ∃ i : Nat, v19 = .int .i64 i ∧ Aside0 (i + kq = n) ∧ Aside0 (DkIn wr w1.heap.size g (DS.fresh n (imgs.take i ++ List.replicate (n - i) zeros)) lb cp mb (fun _ => .slice none 0 0) 0 (.map [])) ∧ Aside0 (Below w1.heap.size w1 wr))
  case atStart => exact ⟨0, rfl, ⟨Nat.zero_add _⟩, ⟨by simpa using HD0.out⟩, HB0⟩
  case round =>
    clear HD0 HB0
    obtain ⟨i, rfl, HI, HD, HB⟩ := hrel
    by_cases hi : i < n
    · have hib : decide (i < n) = true := decide_eq_true hi
      have hit : (i < n) = True := eq_true hi
      obtain ⟨ad3, ce, e3, hcl3, hK3, hcell3⟩ := Kd.C_get HC.out ([] : List Int) (i : Int) (by omega) (by omega)
      subst e3
      obtain ⟨Ay, cy, rfl, hly, hCy⟩ := hK3
      have hx3 := hcell3 0 _ rfl
      rw [Int.toNat_natCast, show i * KB.sz + 0 = i from Nat.mul_one i] at hx3
      rw [Int.toNat_natCast] at hly hCy
      replace hx3 := (HB.out.cell (World.block_lt_of_cell? w1 _ hx3)).trans hx3
      have h5 := HL.out i hi
      rw [h5] at hx3 hly hCy
      have HHI := Aside0.mk hi
      have hCw := Aside0.mk (show (Kd.int .u8).C w1 Ay 512 (imgs.getD i []) from hCy)
      have hCy' : (Kd.int .u8).C wr Ay 512 (imgs.getD i []) := Kd.C_below hCw.out HB.out
      clear hcell3 hCy hi
      obtain ⟨ad, rfl, hcc⟩ := Kd.at_int hCy' 0 (by omega) (by omega)
      have hspot := spot_of_C hCy' (by omega)
      obtain ⟨ab, ao, asp⟩ := ad
      obtain rfl : asp = none := hspot
      have hrange := rangeAt_of_C hCy' rfl
      clear hCy' hcc
      go_upto_region 9 with (fail)
      obtain ⟨bC, hbC⟩ : ∃ x, x = imgs.getD i [] := ⟨_, rfl⟩
      have HbC := Aside0.mk hbC
      have H5 := Aside0.mk (show bC.length = 512 from by rw [hbC]; exact h5)
      rw [← hbC] at hrange
      have hth : wr.there lb (i * 512) 512 := (sec_at HD.out.la i HHI.out).2.2
      have hlbg : lb ≠ g := HD.out.lbg
      have habl : ab ≠ lb := by
        have h_ := (HD.out.la.typed rfl).1
        obtain ⟨ad9, e9, hc9⟩ := Kd.at_int hCw.out 0 (by omega) (by omega)
        obtain rfl := Option.some.inj e9
        have h2_ := World.block_lt_of_cell? w1 _ hc9
        have e_ : ((⟨ab, ao, none⟩ : Addr).add (0 : Int).toNat).block = ab := by unfold Addr.add; split <;> rfl
        rw [e_] at h2_
        have h3_ : w1.heap.size ≤ lb := h_
        intro e
        rw [e] at h2_
        exact Nat.not_lt.2 h3_ h2_
      have hg0 : wr.cell? ⟨g, 0, none⟩ = some (.slice (some ⟨lb, 0, none⟩) n cp) := blk_cell HD.out.hd 0
      have hi0 : (0 : Int) ≤ (i : Int) := by omega
      have hsap := sap (some ⟨ab, ao, none⟩) cy
      have hcl : (nums .u8 bC).length = 512 := by rw [nums_length, H5.out]
      have hnb := nums_one bC
      have hu91 := Try.underlying91
      have hi91 : (Try.prog.info? 91).map (·.size) = some (nums .u8 bC).length := by rw [hcl]; exact size91
      generalize hcb : nums .u8 bC = cb at *
      have HCB := Aside0.mk hcb
      clear hcb hbC h5
      go_region_held3 (fun W => W.cell? ⟨g, 0, none⟩ = some (.slice (some ⟨lb, 0, none⟩) n cp) ∧ W.rangeAt ab ao cb ∧ W.there lb (i * 512) 512) (first | assumption | (simp only [World.cell?_drew]; exact ⟨hg0, hrange, hth⟩) | exact ⟨(World.cell?_setCells_out lb cb _ _ _ (fun e => absurd e.symm hlbg)).trans hg0, World.rangeAt_setCells_apart (w := wr.drew) hrange lb _ cb (.inl habl), World.there_setCells (w := wr.drew) hth lb _ cb⟩ | fail) (fail)
      have HP := (HD.out.chg (G := fun _ => False) (w' := wr.drew) ⟨rfl, rfl, rfl, Nat.le_refl _, fun _ _ _ => rfl⟩ (fun _ _ => id)).putL i HHI.out bC H5.out
      rw [HCB.out] at HP
      have hLe : (imgs.take i ++ List.replicate (n - i) zeros).set i bC = imgs.take (i + 1) ++ List.replicate (n - (i + 1)) zeros := by
        rw [HbC.out, HN.out]
        exact take_set2 imgs zeros [] i (by have := HHI.out; have := HN.out; omega)
      have HD6 := Aside0.mk (show DkIn (wr.drew.setCells lb (i * 512) cb) w1.heap.size g (DS.fresh n (imgs.take (i + 1) ++ List.replicate (n - (i + 1)) zeros)) lb cp mb (fun _ => .slice none 0 0) 0 (.map []) from by
        rw [← hLe]; exact HP.1)
      have HB6 := Aside0.mk (Chg.below HB.out ((Chg.trans (F := fun x => x = lb) (b := wr.drew) (G := fun x => x = lb) ⟨rfl, rfl, rfl, Nat.le_refl _, fun _ _ _ => rfl⟩ (Chg.of_grown HP.2 (fun x hx => (Option.some.inj hx).symm)) (fun x hx => .inl hx))) (below_size HB.out) (fun x hx => by subst hx; exact (HD.out.la.typed rfl).1))
      clear HP hrange hth hg0 hsap hx3 hLe
      generalize wr.drew.setCells lb (i * 512) cb = w7 at HD6 HB6 ⊢
      go_wp2
      go_roundg (gk - 1)
      case measure => have := HI.out; have := HHI.out; omega
      case rel => exact ⟨i + 1, (by have hi_ := HHI.out; have hm_ := HM.out; first | rfl | (simp; done) | (rw [show wrap64 ((i : Int) + 1) = (i : Int) + 1 from by unfold wrap64; omega]; rfl)), ⟨by have := HI.out; have := HHI.out; omega⟩, HD6, HB6⟩
    · have hib : decide (i < n) = false := decide_eq_false hi
      have HHI := Aside0.mk hi
      clear hi
      go_wp2
      go_ret2
      refine ⟨g, Fp g lb mb (fun _ => .slice none 0 0) n, rfl, ⟨lb, cp, mb, fun _ => .slice none 0 0, 0, .map [], ?_, fun b => Iff.rfl⟩, HB.out⟩
      have h1 := HD.out
      have e : i = n := by have := HI.out; have := HHI.out; omega
      rw [e, Nat.sub_self, List.replicate_zero, List.append_nil, show imgs.take n = imgs from by rw [HN.out]; exact List.take_length] at h1
      exact h1
end Go.Proofs.Ytddnhcnkjcdfgaa.M

namespace Go.Proofs.Ytddnhcnkjcdfgaa.M
open Go.RowKit Go.Maps Go.Proofs.YtddnhcnkjcdfgaaW.PrintWords Go.Proofs.YtddnhcnkjcdfgaaW.PrintLast Go.Proofs.YtddnhcnkjcdfgaaW.PrintMore
open Go.Proofs.Ytddnhcnkjcdfgaa.P
attribute [local go_sem] max2_int min2_int max_two min_two max_three min_three max_four min_four
set_option linter.unusedVariables false
set_option linter.unusedSimpArgs false
def again_T16 : Bool × List (List Nat × List Nat) := (true, [([], []), ([], []), ([], []), ([], []), ([3], [3]), ([0, 1, 2, 4], [0, 1, 2, 4]), ([5, 5], [5]), ([6], [6]), ([6], [6]), ([6], [6]), ([6], [6]), ([9, 10, 6, 6], [6, 9, 10]), ([6], [6]), ([6], [6]), ([13, 6], [6, 13]), ([14, 11, 6], [6, 14]), ([12, 15, 6], [6, 12, 15]), ([16, 6], [6, 16]), ([11, 17, 15, 6], [6, 11, 17]), ([6], [6]), ([19, 6], [6, 19]), ([20, 6], [6, 20]), ([7, 8, 18, 21, 18, 6], [6, 7, 8, 18, 21]), ([6, 22], [6, 22]), ([23, 22, 0, 1, 2, 3, 4, 5, 6, 7, 8, 9, 10, 11, 12, 13, 14, 15, 16, 17, 18, 19, 20, 21, 22, 23], [23])])
def again_B16 : List Nat := [0, 0, 0, 0, 8, 31, 63, 127, 127, 127, 127, 1663, 127, 127, 8319, 28287, 65151, 130687, 261759, 127, 524415, 1572991, 4194303, 8388607, 16777215]
theorem again_tab16 : rtab .any (opsOf Try.f5 16) = again_T16 := by kernel_rfl
theorem again_bits16 : waitsOk again_T16.2 again_B16 = true := by kernel_rfl
set_option maxHeartbeats 8000000 in
set_option maxRecDepth 100000 in
theorem again_calls (k kB : Nat) (a0 : Int) (A1 : Option Addr) (c1 : Nat) (l1 : List S30) (x0 : Int) (A2 : Option Addr) (c2 : Nat) (l2 : List Int) (w : World)
    (hr1 : Kd.C k30 w A1 l1.length l1) (hc1 : l1.length ≤ c1) (hr2 : Kd.C (Kd.int .u8) w A2 l2.length l2) (hc2 : l2.length ≤ c2)
    (n : Nat) (out : List S30) (h : kilnlaw3_made.f k a0 l1 = some (0, (n : Int), out)) (hn2 : 2 ≤ n) (hnm : n ≤ 64) (hlen : out.length ≤ 100) (hgo : Good n out)
    (i0 : Nat) (hmd : kilnlaw3_mod.f x0 (n : Int) = some (i0 : Int)) (hi0 : i0 < n) (t322 : List Int) (hsec : kilnlaw3_sector.f kB l2 = some t322) (h512 : t322.length = 512)
    (s1 : DS) (hs1 : s1 = (runD n out (-1) out.length).flush)
    (hcur : ∀ i, i < n → ∃ kl, kilnlaw3_last.f kl out (i : Int) (out.length : Int) = some (s1.L.getD i []))
    (hcur2 : ∀ i, i < n → ∃ kl, kilnlaw3_last.f kl (out ++ [⟨(i0 : Int), t322⟩]) (i : Int) (wrap64 ((out.length : Int) + 1)) = some (((DS.fresh n s1.L).put i0 t322).flush.cur i)) :
    Calls Try.prog 5 #[.int .i64 a0, .slice A1 l1.length c1, .agg #[.int .i64 x0, .slice A2 l2.length c2]] w fun e w' => e = .returned (.bool true) ∧ Below w.heap.size w w' := by
  have hn1 : s1.n = n := by rw [hs1]; exact runD_n n out (-1) out.length
  have hl1 : s1.L.length = n := by rw [hs1]; show ((List.range (runD n out (-1) out.length).n).map _).length = n; rw [List.length_map, List.length_range, runD_n]
  have hMADE := Aside0.mk (fun W (hW : Below w.heap.size w W) => kilnlaw3_made.calls k a0 A1 c1 l1 0 (n : Int) out n hn2 hnm rfl W (Kd.C_below hr1 hW) hc1 h)
  have HOUT := Aside0.mk hgo
  have HCUR := Aside0.mk hcur
  have HCUR2 := Aside0.mk hcur2
  have HR2 := Aside0.mk hr2
  have HC2 := Aside0.mk hc2
  have HSEC := Aside0.mk hsec
  have HMD := Aside0.mk hmd
  have H5 := Aside0.mk h512
  have HI0 := Aside0.mk hi0
  have HS1 := Aside0.mk hs1
  have HN1 := Aside0.mk hn1
  have HL1 := Aside0.mk hl1
  have HN2 := Aside0.mk hn2
  have HNM := Aside0.mk hnm
  clear hr1 hc1 hr2 hc2 h hgo hmd hi0 hsec h512 hs1 hcur hcur2 hn1 hl1
  go_enter Try.func5, Try.ntmps5
  go_upto_region 4 with (first
    | ((with_reducible refine gate_dst (N := 5) rfl ?_); (try (refine gate_guard (by rfl) ?_; dsimp only)); refine box_event ?hg (N := 5) ?hd (cs := #[.int .i64 x0, .slice A2 l2.length c2]) (t := 30) ?hr ?_; (case hd => rfl); (case hg => rfl); (case hr => first | (go_simp; done) | (go_simp; rfl)); intro gb hg w8 hbox hb; have HB8 := Aside0.mk hb; have BK8 := Aside0.mk hbox; clear hb hbox hg)
    | (go_at_call 15; (with_reducible refine (hMADE.out _ HB8.out).mono ?_); rintro e w1 ⟨v2, g, F0, base, rfl, hbase, hd, hs, hb⟩; obtain ⟨Ao17, co17, e2⟩ := Kd.S_slice hs; subst e2; have HD0 := Aside0.mk hd; have HS0 := Aside0.mk (Kd.S_bound hs); have HB1 := Aside0.mk hb; have HBS := Aside0.mk hbase; clear hd hs hb hbase))
  have BK1 := Aside0.mk ((HB1.out.block gb (blk_lt BK8.out)).trans BK8.out)
  have HBw := Aside0.mk (below_step HB8.out HB1.out)
  have HSZ := Aside0.mk (below_size HB8.out)
  have HGB := Aside0.mk (show gb < w8.heap.size from blk_lt BK8.out)
  clear BK8 hMADE HB8
  go_wp2
  go_loopg [9] out.length (fun kq v9 w' => ∃ (j : Nat) (F : Nat → Prop), v9 = .int .i64 j ∧ Aside0 (j + kq = out.length) ∧ Aside0 (DkAt w' base g F (runD n out (-1) j)) ∧ Aside0 (∀ x, F x → F0 x ∨ w1.heap.size ≤ x) ∧ Aside0 (Chg F0 w1 w'))
  case atStart => exact ⟨0, F0, rfl, ⟨Nat.zero_add _⟩, HD0, ⟨fun x h => .inl h⟩, ⟨Chg.refl _ _⟩⟩
  case round =>
    obtain ⟨j, F, rfl, HJ, HD, HF, HX⟩ := hrel
    have HSw := Aside0.mk (Kd.S_step HS0.out (fun k_ hk hlt => HX.out.block k_ hlt hk.1))
    by_cases hj : j < out.length
    · have hjb : decide (j < out.length) = true := decide_eq_true hj
      have hjt : (j < out.length) = True := eq_true hj
      obtain ⟨⟨i, hi, hf0⟩, h5⟩ := HOUT.out.at_ j hj
      obtain ⟨go, b1, c3, rfl, hx0, hx1, hC, hok, hog, hgo⟩ := row_at HSw.out j hj h5
      rw [hf0] at hx0
      have HRN := Aside0.mk (show (rd_T30 out (j : Int)).f0.toNat = i from by rw [hf0]; rfl)
      have HWR := Aside0.mk (fun W (hW : Below wr.heap.size wr W) => write_at g i (some ⟨b1, 0, none⟩) c3 _ W base F _ (HD.out.chg (G := fun _ => False) (Chg.of_below hW) (fun _ _ => id)) (by rw [runD_n]; exact hi) (Kd.C_below hC hW) (fun ad' e hF => by
        cases e
        rcases HF.out _ hF with h_ | h_
        · exact hok.1 h_
        · have := hok.2.2; have h2_ : w1.heap.size ≤ b1 := h_; omega) (by have := runD_c n out (-1) j; omega))
      have HGO := Aside0.mk (And.intro (show ¬ F go from fun hF => by
        rcases HF.out _ hF with h_ | h_
        · exact hog.1 h_
        · have := hog.2.2; omega) hgo)
      have HJ2 := Aside0.mk hj
      clear hj hC hok hf0 h5 hog hgo
      go_wp2
      go_region_held3 (fun W => W.cell? ⟨go, j * 2, none⟩ = some (.int .i64 (i : Int)) ∧ W.cell? ⟨go, j * 2 + 1, none⟩ = some (.slice (some ⟨b1, 0, none⟩) 512 c3)) (first | exact ⟨hx0, hx1⟩ | exact HKEEP.out) ((go_at_call 16; (with_reducible refine (HWR.out _ (by repeat (first | exact Below.refl _ _ | apply below_drew1 | apply pw_below_drewN | apply below_alloc))).mono ?_); rintro e w5 ⟨rfl, F5, hd5, hF5, hX5⟩; have HKEEP := Aside0.mk (And.intro ((Chg.cell hX5 HGO.out.1 (by first | exact HGO.out.2 | simpa using HGO.out.2) (j * 2)).trans hx0) ((Chg.cell hX5 HGO.out.1 (by first | exact HGO.out.2 | simpa using HGO.out.2) (j * 2 + 1)).trans hx1)); have HD5 := Aside0.mk hd5; have HF5 := Aside0.mk hF5; have HX5 := Aside0.mk hX5; clear hd5 hF5 hX5))
      have hX5 := Aside0.mk (show Chg F wr _ from ⟨HX5.out.os, HX5.out.tape, HX5.out.output, HX5.out.size, HX5.out.block⟩)
      have hF5 := Aside0.mk (fun x (hx : F5 x) => (show F0 x ∨ w1.heap.size ≤ x from by
        rcases HF5.out x hx with h_ | h_
        · exact HF.out x h_
        · exact .inr (Nat.le_trans HX.out.size h_)))
      have HXX := Aside0.mk (HX.out.trans hX5.out HF.out)
      clear HX5 HF5 hX5 HKEEP HWR HSw HX HF HD HGO hx0 hx1
      go_wp2
      go_roundg (gk - 1)
      case measure => have := HJ.out; have := HJ2.out; omega
      case rel => exact ⟨j + 1, F5, (by have hi_ := HJ2.out; have hl_ := hlen; first | rfl | (simp; done) | (rw [show wrap64 ((j : Int) + 1) = (j : Int) + 1 from by unfold wrap64; omega]; rfl)), ⟨by have := HJ.out; have := HJ2.out; omega⟩, ⟨by unfold runD; rw [if_neg (by omega), HRN.out]; exact HD5.out⟩, ⟨hF5.out⟩, ⟨HXX.out⟩⟩
    · have hjb : decide (j < out.length) = false := decide_eq_false hj
      obtain rfl : j = out.length := by have := HJ.out; omega
      clear hj
      have HBr := Aside0.mk (Chg.below HBw.out HX.out (below_size HBw.out) (fun x hx => Nat.le_trans (Nat.le_trans HSZ.out HBS.out) (HD0.out.foot x hx).1))
      have HSr := Aside0.mk (show Kd.S k30 30 wr w8.heap.size (fun x => ¬ F x ∧ x < wr.heap.size) _ out from Kd.S_mono HSw.out (fun k_ hk => ⟨fun hF => by
        rcases HF.out _ hF with h_ | h_
        · exact hk.1 h_
        · have := hk.2.2.1; omega, Nat.lt_of_lt_of_le hk.2.2.1 HX.out.size⟩))
      have BKr := Aside0.mk ((HX.out.block gb (blk_lt BK1.out) (fun hF => by have h1_ := (HD0.out.foot gb hF).1; have h2_ := HBS.out; have h3_ := HGB.out; omega)).trans BK1.out)
      clear HSw HX HBw HD0 HS0 HB1 BK1
      have HIMf := Aside0.mk (fun W F (hd : DkAt W base g F s1) => (show Calls Try.prog 26 #[.pointer (some ⟨g, 0, none⟩)] W (fun e w' => ∃ go c, e = .returned (.slice (some ⟨go, 0, none⟩) n c) ∧ Kd.S KB 28 w' W.heap.size (fun _ => True) (.slice (some ⟨go, 0, none⟩) n c) s1.L ∧ Below W.heap.size W w') from by
        have h_ := image_at g W base F s1 hd
        rw [HN1.out] at h_
        exact h_))
      have HLOf := Aside0.mk (fun W go c base0 (hs : Kd.S KB 28 W base0 (fun _ => True) (.slice (some ⟨go, 0, none⟩) n c) s1.L) (hL5 : ∀ x ∈ s1.L, x.length = 512) => (show Calls Try.prog 28 #[.slice (some ⟨go, 0, none⟩) n c] W (fun e w' => ∃ g F, e = .returned (.tuple #[.pointer (some ⟨g, 0, none⟩), .int .i64 0]) ∧ DkAt w' W.heap.size g F (DS.fresh n s1.L) ∧ Below W.heap.size W w') from by
        have h_ := load_calls (some ⟨go, 0, none⟩) c s1.L W (by rw [HL1.out]; exact HN2.out) (by rw [HL1.out]; have := HNM.out; omega) (Kd.S_reads' hs).2.2 (fun i hi => hL5 _ (by rw [List.getD_eq_getElem?_getD, List.getElem?_eq_getElem hi]; exact List.getElem_mem hi))
        rw [HL1.out] at h_
        exact h_))
      go_upto_region 10 with (first
        | (go_at_call 17; (with_reducible refine (flush_at _ _ _ _ _ HD.out).mono ?_); rintro e w10 ⟨⟨v10, rfl⟩, F10, hd, hF, hX⟩; rw [← HS1.out] at hd; have HD10 := Aside0.mk hd; have HF10 := Aside0.mk hF; have HX10 := Aside0.mk hX; clear hd hF hX)
        | (go_at_call 26; (with_reducible refine (HIMf.out _ _ HD10.out).mono ?_); rintro e w11 ⟨go11, c11, rfl, hs, hb⟩; have HS11 := Aside0.mk hs; have HB11 := Aside0.mk hb; clear hs hb)
        | (go_at_call 28; (with_reducible refine (HLOf.out _ _ _ _ HS11.out HD10.out.lasts.2).mono ?_); rintro e w12 ⟨g2, F2, rfl, hd, hb⟩; have HD12 := Aside0.mk hd; have HB12 := Aside0.mk hb; clear hd hb))
      have hsz0 := Aside0.mk (HX10.out.size)
      have HB10 := Aside0.mk (Chg.below HBr.out HX10.out (below_size HBr.out) (fun x hx => Nat.le_trans (Nat.le_trans HSZ.out HBS.out) (HD.out.foot x hx).1))
      have HBi := Aside0.mk (below_step HB11.out HB12.out)
      have HBq := Aside0.mk (below_step HB10.out HBi.out)
      have HDd := Aside0.mk (HD10.out.below HBi.out)
      have HFd := Aside0.mk (fun x hx => (HD10.out.foot x hx).2)
      have HSz11 := Aside0.mk (Nat.le_trans (below_size HB11.out) (Nat.le_refl w11.heap.size))
      have HSo := Aside0.mk (show Kd.S k30 30 w12 w8.heap.size (fun x => ¬ F10 x ∧ x < w10.heap.size) _ out from Kd.S_below (Kd.S_mono (Kd.S_step HSr.out (fun k_ hk hlt => HX10.out.block k_ hlt hk.1)) (fun k_ hk => ⟨fun hF => hk.1 (HF10.out k_ hF), Nat.lt_of_lt_of_le hk.2 HX10.out.size⟩)) HBi.out)
      have BKq := Aside0.mk ((HBi.out.block gb (Nat.lt_of_lt_of_le (blk_lt BKr.out) HX10.out.size)).trans ((HX10.out.block gb (blk_lt BKr.out) (fun hF => by have h1_ := (HD.out.foot gb hF).1; have h2_ := HBS.out; have h3_ := HGB.out; omega)).trans BKr.out))
      have HF2 := Aside0.mk (fun x hx => Nat.le_trans (below_size HB11.out) (HD12.out.foot x hx).1)
      have HS10 := Aside0.mk (below_size HB10.out)
      have HG10 := Aside0.mk (show gb < w10.heap.size from Nat.lt_of_lt_of_le (blk_lt BKr.out) HX10.out.size)
      have HS1012 := Aside0.mk (below_size HBi.out)
      clear HIMf HLOf HX10 HB10 HBi HD10 HSr BKr HBr HB11 HB12 HS11 HSz11 HD HF10
      have HTE := Aside0.mk (show Calls Try.prog 18 #[.pointer (some ⟨g2, 0, none⟩), .int .i64 (n : Int), .slice Ao17 out.length co17, .int .i64 (out.length : Int)] w12 _ from tells_calls g2 _ F2 (DS.fresh n s1.L) Ao17 co17 out (out.length : Int) w12 HD12.out (Kd.V_mono (Kd.S_V (base' := w12.heap.size) HSo.out) (fun k_ hk hF => by have h1_ := HF2.out k_ hF; have h2_ := hk.2; omega)) HCUR.out)
      have HSE := Aside0.mk (show Calls Try.prog 29 #[.pointer (some ⟨g2, 0, none⟩)] w12 fun e w' => e = .returned (.int .i64 (n : Int)) ∧ w' = w12 from sectors_at g2 w12 _ F2 (DS.fresh n s1.L) HD12.out)
      go_upto_region 12 with (first
        | (go_at_call 29; (with_reducible refine HSE.out.mono ?_); rintro e w' ⟨rfl, hw_⟩; subst hw_)
        | (go_at_call 18; (with_reducible refine HTE.out.mono ?_); rintro e w13 ⟨rfl, r', hd, hX⟩; have HD13 := Aside0.mk hd; have HX13 := Aside0.mk hX; clear hd hX))
      have BK13 := Aside0.mk ((HX13.out.block gb (blk_lt BKq.out) (fun hF => by have h1_ := HF2.out gb hF; have h2_ := HG10.out; omega)).trans BKq.out)
      have HB13 := Aside0.mk (Chg.below HBq.out HX13.out (below_size HBq.out) (fun x hx => Nat.le_trans HS10.out (HF2.out x hx)))
      have HDd13 := Aside0.mk (HDd.out.chg HX13.out (fun x hx hF => by have h1_ := HFd.out x hx; have h2_ := HF2.out x hF; omega))
      have HS13 := Aside0.mk (Kd.S_step HSo.out (fun k_ hk hlt => HX13.out.block k_ hlt (fun hF => by have h1_ := HF2.out k_ hF; have h2_ := hk.2; omega)))
      have hcz0 : w13.cell? ⟨gb, 0, none⟩ = some (.int .i64 x0) := (blk_cell BK13.out 0).trans rfl
      have hcz1 : w13.cell? ⟨gb, 1, none⟩ = some (.slice A2 l2.length c2) := (blk_cell BK13.out 1).trans rfl
      have HX13s := Aside0.mk HX13.out.size
      clear HTE HSE HDd HSo HX13 HBq BKq HD12
      go_upto_region 13 with (go_at_call 20; (with_reducible refine (kilnlaw3_mod.calls x0 (n : Int) (i0 : Int) _ HMD.out).mono ?_); rintro e w14 ⟨rfl, hdr⟩; have HB14 := Aside0.mk (show Below w13.heap.size w13 w14 from by obtain ⟨nd, rfl⟩ := hdr; exact pw_below_drewN (Below.refl _ _) _); clear hdr)
      have HD14 := Aside0.mk (HD13.out.below HB14.out)
      have HDd14 := Aside0.mk (HDd13.out.below HB14.out)
      have HS14 := Aside0.mk (Kd.S_below HS13.out HB14.out)
      have BK14 := Aside0.mk ((HB14.out.block gb (blk_lt BK13.out)).trans BK13.out)
      have HBw14 := Aside0.mk (below_step HB13.out HB14.out)
      have HS1014 := Aside0.mk (Nat.le_trans (Nat.le_trans HS1012.out HX13s.out) (below_size HB14.out))
      clear hcz0 hcz1 HD13 HDd13 HS13 BK13 HB13 HB14
      have hcz0 : w14.cell? ⟨gb, 0, none⟩ = some (.int .i64 x0) := (blk_cell BK14.out 0).trans rfl
      have hcz1 : w14.cell? ⟨gb, 1, none⟩ = some (.slice A2 l2.length c2) := (blk_cell BK14.out 1).trans rfl
      have HWF := Aside0.mk (fun (w3 : World) (b3 c3' : Nat) (ho : Kd.R (Kd.int .u8) 5 w3 w14.heap.size (fun _ => True) (.slice (some ⟨b3, 0, none⟩) 512 c3') t322) (hb : Below w14.heap.size w14 w3) (hb3 : w14.heap.size ≤ b3) => write_at g2 i0 (some ⟨b3, 0, none⟩) c3' t322 w3 _ F2 _ (HD14.out.below hb) HI0.out (by have h_ := (Kd.R_reads' ho).2.2; rw [H5.out] at h_; exact h_) (fun ad e hF => by
        cases e
        have h_ := (HD14.out.foot _ hF).2
        have h1_ : b3 < w14.heap.size := h_
        omega) (by show (0 : Nat) < 1073741824; decide))
      go_upto_region 16 with (first
        | (go_at_call 22; (with_reducible refine (kilnlaw3_sector.calls kB A2 c2 l2 t322 _ ?s1 HC2.out HSEC.out).mono ?_); (case s1 => exact Kd.C_below HR2.out HBw14.out); rintro e w15 ⟨v3, rfl, ho, hb⟩; obtain ⟨b3, c3', e3, hb3, _, _⟩ := Kd.R_form ho (by rw [H5.out]; decide); rw [H5.out] at e3; subst e3; have HB15 := Aside0.mk hb; have HWR := Aside0.mk (HWF.out _ _ _ ho hb hb3); clear ho hb hb3)
        | (go_at_call 16; (with_reducible refine HWR.out.mono ?_); rintro e w16 ⟨rfl, F16, hd, hF, hX⟩; have HD16 := Aside0.mk hd; have HF16 := Aside0.mk hF; have HX16 := Aside0.mk hX; clear hd hF hX)
        | (go_at_call 17; (with_reducible refine (flush_at _ _ _ _ _ HD16.out).mono ?_); rintro e w17 ⟨⟨v17, rfl⟩, F17, hd, hF, hX⟩; have HD17 := Aside0.mk hd; have HF17 := Aside0.mk hF; have HX17 := Aside0.mk hX; clear hd hF hX))
      have HFx := Aside0.mk (fun x (hx : F17 x) => (show w10.heap.size ≤ x from by
        rcases HF16.out x (HF17.out x hx) with h_ | h_
        · exact HF2.out x h_
        · have h2_ := below_size HB15.out
          have h3_ := HS1014.out
          omega))
      obtain ⟨s2, hs2⟩ : ∃ s2, s2 = (((DS.fresh n s1.L).withR r').put i0 t322).flush := ⟨_, rfl⟩
      have HD17' := Aside0.mk (show DkAt w17 w11.heap.size g2 F17 s2 from by rw [hs2]; exact HD17.out)
      have HS2 := Aside0.mk hs2
      clear hs2
      have HX1 := Aside0.mk (HX16.out.trans HX17.out HF16.out)
      have HDd17 := Aside0.mk ((HDd14.out.below HB15.out).chg HX1.out (fun x hx hF => by have h1_ := HFd.out x hx; have h2_ := HF2.out x hF; omega))
      have HO17 := Aside0.mk (show Kd.V k30 30 w17 w17.heap.size (fun k_ => (¬ F17 k_ ∧ k_ ≠ gb) ∧ ¬ F10 k_) (.slice Ao17 out.length co17) out from Kd.V_mono (Kd.V_step (Kd.S_V (base' := w17.heap.size) (Kd.S_bound (Kd.S_below HS14.out HB15.out))) (fun k_ hk hlt => HX1.out.block k_ hlt (fun hF => by have h1_ := HF2.out k_ hF; have h2_ := hk.1.2; omega))) (fun k_ hk => ⟨⟨fun hF => by have h1_ := HFx.out k_ hF; have h2_ := hk.1.2; omega, fun e_ => by have h1_ := hk.2.1; have h2_ := HGB.out; omega⟩, hk.1.1⟩))
      have BK17 := Aside0.mk ((HX1.out.block gb (Nat.lt_of_lt_of_le (blk_lt BK14.out) (below_size HB15.out)) (fun hF => by have h1_ := HF2.out gb hF; have h2_ := HG10.out; omega)).trans ((HB15.out.block gb (blk_lt BK14.out)).trans BK14.out))
      have HB17 := Aside0.mk (Chg.below (below_step HBw14.out HB15.out) HX1.out (below_size (below_step HBw14.out HB15.out)) (fun x hx => Nat.le_trans HS10.out (HF2.out x hx)))
      have HCURd := Aside0.mk (fun i (hi : i < n) => (show ∃ kl, kilnlaw3_last.f kl out (i : Int) (out.length : Int) = some (s1.cur i) from by
        obtain ⟨kl, h_⟩ := HCUR.out i hi
        refine ⟨kl, ?_⟩
        rw [h_, HS1.out]
        rfl))
      have HTd := Aside0.mk (fun W (hd : DkAt W base g F10 s1) (hV : Kd.V k30 30 W W.heap.size (fun k_ => ¬ F10 k_) (.slice Ao17 out.length co17) out) => (show Calls Try.prog 18 #[.pointer (some ⟨g, 0, none⟩), .int .i64 (n : Int), .slice Ao17 out.length co17, .int .i64 (out.length : Int)] W (fun e w' => e = .returned (.bool true) ∧ ∃ r', DkAt w' base g F10 (s1.withR r') ∧ Chg F10 W w') from by
        have h_ := tells_calls g base F10 s1 Ao17 co17 out (out.length : Int) W hd hV (by rw [HN1.out]; exact HCURd.out)
        rw [HN1.out] at h_
        exact h_))
      have HTe := Aside0.mk (fun W A6 c6 (y : List S30) (hy : y = out ++ [⟨(i0 : Int), t322⟩]) (hd : DkAt W w11.heap.size g2 F17 s2) (hV : Kd.V k30 30 W W.heap.size (fun k_ => ¬ F17 k_) (.slice A6 y.length c6) y) => (show Calls Try.prog 18 #[.pointer (some ⟨g2, 0, none⟩), .int .i64 (n : Int), .slice A6 y.length c6, .int .i64 (wrap64 ((out.length : Int) + 1))] W (fun e w' => e = .returned (.bool true) ∧ ∃ r', DkAt w' w11.heap.size g2 F17 (s2.withR r') ∧ Chg F17 W w') from by
        have hn : s2.n = n := by rw [HS2.out]; rfl
        have h_ := tells_calls g2 w11.heap.size F17 s2 A6 c6 y (wrap64 ((out.length : Int) + 1)) W hd hV (by
          rw [hn, hy]
          intro i hi
          obtain ⟨kl, h_⟩ := HCUR2.out i hi
          refine ⟨kl, ?_⟩
          rw [h_, HS2.out]
          rfl)
        rw [hn] at h_
        exact h_))
      have HF17d := Aside0.mk (fun x (hx : F17 x) (hF : F10 x) => (show False from by have h1_ := HFx.out x hx; have h2_ := HFd.out x hF; omega))
      have HF17g := HFx
      have HGF := Aside0.mk (show ¬ F10 gb from fun hF => by have h1_ := (HDd17.out.foot gb hF).1; have h2_ := HBS.out; have h3_ := HGB.out; omega)
      have HGE := Aside0.mk (show ¬ F17 gb from fun hF => by have h1_ := HFx.out gb hF; have h2_ := HG10.out; omega)
      obtain ⟨y187, hy187⟩ : ∃ y_ : List (S30), y_ = (([] : List (S30))) := ⟨_, rfl⟩
      have Ny187 := Aside0.mk hy187
      obtain ⟨y190, hy190⟩ : ∃ y_ : List (S30), y_ = (y187 ++ out) := ⟨_, rfl⟩
      have Ny190 := Aside0.mk hy190
      obtain ⟨y196, hy196⟩ : ∃ y_ : List (S30), y_ = (y190 ++ [(⟨(i0 : Int), t322⟩ : S30)]) := ⟨_, rfl⟩
      have Ny196 := Aside0.mk hy196
      have LMc26 := Aside0.mk (show y187.length + out.length < 4398046511104 from by rw [hy187]; simp; omega)
      have LMc28 := Aside0.mk (show y190.length < 4398046511104 from by rw [hy190, hy187]; simp; omega)
      clear hy187 hy190 hy196
      go_wp2
      have HO_1 := Aside0.mk (Kd.V_drew HO17.out)
      have HDd := Aside0.mk (HDd17.out.below (below_drew1 (Below.refl _ _)))
      have HDe := Aside0.mk (HD17'.out.below (below_drew1 (Below.refl _ _)))
      have BK171 := Aside0.mk (show w17.drew.heap[gb]? = some (.cells #[.int .i64 x0, .slice A2 l2.length c2] 30 (0, 0)) from BK17.out)
      have HBw := Aside0.mk (below_drew1 HB17.out)
      clear HO17 HDd17 HD17' BK17 HB17 HD17 HX1 HX16 HX17 HDd14 HS14 BK14 HBw14 HB15 HWR HWF HD16 HF16
      refine start_ (n := 25) (S := fun w' => w'.cell? ⟨gb, 0, none⟩ = some (.int .i64 x0) ∧ w'.cell? ⟨gb, 1, none⟩ = some (.slice A2 l2.length c2)) (ds := []) (bb 25 0) (by kernel_rfl) rfl rfl ⟨(blk_cell BK171.out 0).trans rfl, (blk_cell BK171.out 1).trans rfl⟩ (fun hHeld => ?_); refine with_tabW again_tab16 again_bits16 (fun HT_ HW_ => ?_)
      generalize w17.drew = w32 at HO_1 HDd HDe BK171 HBw hHeld ⊢
      refine pure_ (i := 0) (N := some 82) (v := ?_) (a' := ?_) (bb 25 1) rfl rfl (any_of HT_.out (by kernel_rfl)) (fun _ _ _ h => h) (Or.inl ⟨by rfl, ?_⟩) ?_ ?_
      rotate_left
      · intro w'
        go_simp
        with_reducible rfl
      rotate_left
      · simp only [Act.put, List.setIfInBounds_toArray, List.set_cons_zero, List.set_cons_succ, i64_w, i32_w]
        rfl
      refine pure_ (i := 1) (N := some 83) (v := ?_) (a' := ?_) (bb 25 3) rfl rfl (any_of HT_.out (by kernel_rfl)) (fun _ _ _ h => h) (Or.inl ⟨by rfl, ?_⟩) ?_ ?_
      rotate_left
      · intro w'
        go_simp
        with_reducible rfl
      rotate_left
      · simp only [Act.put, List.setIfInBounds_toArray, List.set_cons_zero, List.set_cons_succ, i64_w, i32_w]
        rfl
      refine pure_ (i := 2) (N := some 84) (v := ?_) (a' := ?_) (bb 25 7) rfl rfl (any_of HT_.out (by kernel_rfl)) (fun _ _ _ h => h) (Or.inl ⟨by rfl, ?_⟩) ?_ ?_
      rotate_left
      · intro w'
        go_simp
        with_reducible rfl
      rotate_left
      · simp only [Act.put, List.setIfInBounds_toArray, List.set_cons_zero, List.set_cons_succ, i64_w, i32_w]
        rfl
      refine pure_ (i := 3) (N := some 85) (v := ?_) (a' := ?_) (bb 25 15) rfl rfl (any_of HT_.out (by kernel_rfl)) (fun _ _ _ h => h) (Or.inl ⟨by rfl, ?_⟩) ?_ ?_
      rotate_left
      · intro w'
        go_simp
        with_reducible rfl
      rotate_left
      · simp only [Act.put, List.setIfInBounds_toArray, List.set_cons_zero, List.set_cons_succ, i64_w, i32_w]
        rfl
      refine pure_ (i := 4) (N := some 86) (v := ?_) (a' := ?_) (bb 25 31) rfl rfl (any_of HT_.out (by kernel_rfl)) (fun _ _ _ h => h) (Or.inl ⟨by rfl, ?_⟩) ?_ ?_
      rotate_left
      · intro w'
        go_simp
        with_reducible rfl
      rotate_left
      · simp only [Act.put, List.setIfInBounds_toArray, List.set_cons_zero, List.set_cons_succ, i64_w, i32_w]
        rfl
      refine one_ (i := 5) (N := some 87) (bb 25 63) rfl rfl (one_of HT_.out (by kernel_rfl)) (by decide) (fun K hK => ?_)
      refine goes_ Try.func18 (by kernel_rfl) rfl #[.pointer (some ⟨g, 0, none⟩), .int .i64 (n : Int), .slice Ao17 out.length co17, .int .i64 (out.length : Int)] (by rfl) rfl rfl (by (try simp only [List.map_toArray, List.map_cons, List.map_nil]); first | done | rfl | (simp only [List.length_drop, List.length_take]; rfl)) ?_
      refine (HTd.out w32 HDd.out (Kd.V_mono HO_1.out (fun k_ hk => hk.2))).mono ?_
      rintro e w33 ⟨rfl, r9, hd9, hX9⟩
      refine ⟨_, rfl, ?_⟩
      have hFF := HF17d.out
      have n0_ := Aside0.mk (Kd.V_mono (ok' := (fun k_ => ¬ F17 k_ ∧ k_ ≠ gb)) (Kd.V_step HO_1.out (fun k_ hk hlt => hX9.block k_ hlt hk.2)) (fun k_ hk => hk.1))
      have n1_ := Aside0.mk (HDe.out.chg hX9 (fun x hx hF => hFF x hx hF))
      have n2_ := Aside0.mk ((hX9.block gb (blk_lt BK171.out) HGF.out).trans BK171.out)
      have n3_ := Aside0.mk (Chg.below HBw.out hX9 (below_size HBw.out) (fun x hx => Nat.le_trans (Nat.le_trans HSZ.out HBS.out) (hd9.foot x hx).1))
      clear HO_1 HDe BK171 HBw HDd hd9 hX9 hFF
      have HO_1 := n0_
      have HDe := n1_
      have BK171 := n2_
      have HBw := n3_
      have HR2w := Aside0.mk (Kd.C_below HR2.out HBw.out)
      have HB := Aside0.mk (Below.refl w33.heap.size w33)
      clear HR2
      have HR2 := HR2w
      have HFW := Aside0.mk (fun x hx => (HDe.out.foot x hx).2)
      have HGW := Aside0.mk (blk_lt BK171.out)
      clear n0_ n1_ n2_ n3_ HR2w
      refine hK.out _ _ ⟨(blk_cell BK171.out 0).trans rfl, (blk_cell BK171.out 1).trans rfl⟩ (fun hHeld => ?_)
      clear hK K
      refine norm_ (a' := ?_) ?_ ?_
      rotate_left
      · show Act.put _ (some 87) _ = _
        simp only [Act.put, List.setIfInBounds_toArray, List.set_cons_zero, List.set_cons_succ, i64_w, i32_w]
        rfl
      refine pure_ (i := 6) (N := some 88) (v := ?_) (a' := ?_) (bb 25 127) rfl rfl (any_of HT_.out (by kernel_rfl)) (fun _ _ _ h => h) (Or.inl ⟨by rfl, ?_⟩) ?_ ?_
      rotate_left
      · intro w'
        go_simp
        with_reducible rfl
      rotate_left
      · simp only [Act.put, List.setIfInBounds_toArray, List.set_cons_zero, List.set_cons_succ, i64_w, i32_w]
        rfl
      refine pure_ (i := 7) (N := some 89) (v := ?_) (a' := ?_) (bb 25 255) rfl rfl (any_of HT_.out (by kernel_rfl)) (fun _ _ _ h => h) (Or.inl ⟨by rfl, ?_⟩) ?_ ?_
      rotate_left
      · intro w'
        go_simp
        with_reducible rfl
      rotate_left
      · simp only [Act.put, List.setIfInBounds_toArray, List.set_cons_zero, List.set_cons_succ, i64_w, i32_w]
        rfl
      refine pure_ (i := 8) (N := some 90) (v := ?_) (a' := ?_) (bb 25 511) rfl rfl (any_of HT_.out (by kernel_rfl)) (fun _ _ _ h => h) (Or.inl ⟨by rfl, ?_⟩) ?_ ?_
      rotate_left
      · intro w'
        go_simp
        with_reducible rfl
      rotate_left
      · simp only [Act.put, List.setIfInBounds_toArray, List.set_cons_zero, List.set_cons_succ, i64_w, i32_w]
        rfl
      refine pure_ (i := 10) (N := some 92) (v := ?_) (a' := ?_) (bb 25 1535) rfl rfl (any_of HT_.out (by kernel_rfl)) (fun _ _ _ h => h) (Or.inl ⟨by rfl, ?_⟩) ?_ ?_
      rotate_left
      · intro w'
        go_simp
        with_reducible rfl
      rotate_left
      · simp only [Act.put, List.setIfInBounds_toArray, List.set_cons_zero, List.set_cons_succ, i64_w, i32_w]
        rfl
      refine pure_ (i := 12) (N := some 94) (v := ?_) (a' := ?_) (bb 25 5631) rfl rfl (any_of HT_.out (by kernel_rfl)) (fun _ _ _ h => h) (Or.inl ⟨by rfl, ?_⟩) ?_ ?_
      rotate_left
      · intro w'
        go_simp
        with_reducible rfl
      rotate_left
      · simp only [Act.put, List.setIfInBounds_toArray, List.set_cons_zero, List.set_cons_succ, i64_w, i32_w]
        rfl
      refine pure_ (i := 13) (N := some 95) (v := ?_) (a' := ?_) (bb 25 13823) rfl rfl (any_of HT_.out (by kernel_rfl)) (fun _ _ _ h => h) (Or.inl ⟨by rfl, ?_⟩) ?_ ?_
      rotate_left
      · intro w'
        go_simp
        with_reducible rfl
      rotate_left
      · simp only [Act.put, List.setIfInBounds_toArray, List.set_cons_zero, List.set_cons_succ, i64_w, i32_w]
        rfl
      refine pure_ (i := 19) (N := some 101) (v := ?_) (a' := ?_) (bb 25 538111) rfl rfl (any_of HT_.out (by kernel_rfl)) (fun _ _ _ h => h) (Or.inl ⟨by rfl, ?_⟩) ?_ ?_
      rotate_left
      · intro w'
        go_simp
        with_reducible rfl
      rotate_left
      · simp only [Act.put, List.setIfInBounds_toArray, List.set_cons_zero, List.set_cons_succ, i64_w, i32_w]
        rfl
      refine pure_ (i := 20) (N := some 102) (v := ?_) (a' := ?_) (bb 25 1586687) rfl rfl (any_of HT_.out (by kernel_rfl)) (fun _ _ _ h => h) (Or.inl ⟨by rfl, ?_⟩) ?_ ?_
      rotate_left
      · intro w'
        go_simp
        with_reducible rfl
      rotate_left
      · simp only [Act.put, List.setIfInBounds_toArray, List.set_cons_zero, List.set_cons_succ, i64_w, i32_w]
        rfl
      refine pure_ (i := 21) (N := some 103) (v := ?_) (a' := ?_) (bb 25 3683839) rfl rfl (any_of HT_.out (by kernel_rfl)) (fun _ _ _ h => h) (Or.inl ⟨by rfl, ?_⟩) ?_ ?_
      rotate_left
      · intro w'
        go_simp
        with_reducible rfl
      rotate_left
      · simp only [Act.put, List.setIfInBounds_toArray, List.set_cons_zero, List.set_cons_succ, i64_w, i32_w]
        rfl
      refine take_ (i := 14) (N := some 96) (v := ?_) (a' := ?_) (bb 25 3700223) rfl rfl (take_ofW HT_.out HW_.out (by kernel_rfl)) (fun _ _ _ h => h) (Or.inl ⟨by rfl, ?_⟩) hHeld ?_ ?_
      rotate_left
      · rintro w' ⟨s0, s1⟩
        go_simp
        with_reducible rfl
      rotate_left
      · simp only [Act.put, List.setIfInBounds_toArray, List.set_cons_zero, List.set_cons_succ, i64_w, i32_w]
        rfl
      refine one_ (i := 9) (N := some 91) (bb 25 3700735) rfl rfl (one_of HT_.out (by kernel_rfl)) (by decide) (fun K hK => ?_)
      refine Kd.N_lit_step k30 _ 30 ?hg (N' := 91) ?hd (xs := ([] : List (S30))) (inner := []) (ok := (fun k_ => ¬ F17 k_ ∧ k_ ≠ gb)) (okp := (fun k_ => ¬ F17 k_ ∧ k_ ≠ gb)) ?hr ?hp (fun _ hk => hk) ((show ∀ k_, w33.heap.size ≤ k_ → (fun k_ => ¬ F17 k_ ∧ k_ ≠ gb) k_ from fun k_ hk => ⟨fun hF_ => by have h1_ := HFW.out k_ hF_; omega, fun e_ => by have h1_ := HGW.out; omega⟩) _ (Nat.le_refl _)) (Below.refl _ _) (Nat.le_refl _) (by simp) ?_; (case hd => rfl); (case hg => rfl); (case hr => first | (go_simp; done) | (go_simp; rfl)); (case hp => exact (Reps.none _ _))
      intro v188 w34 ho35 hb hg_ hnew_
      clear hg_ hnew_
      (first | rw [← Ny187.out] at ho35 | (simp only [Int.reduceToNat] at ho35; rw [← Ny187.out] at ho35))
      have n0_ := Aside0.mk (Kd.V_elder' HO_1.out (Kd.N_base ho35) hb)
      have n1_ := Aside0.mk trivial
      have n2_ := Aside0.mk (Kd.N_lower ho35 (below_size (by repeat (first | (with_reducible first | exact HB.out | apply below_alloc | apply pw_below_drewN | apply below_drew1 | refine below_set ?_ GE171.out) | exact HB.out))))
      have n3_ := Aside0.mk (blk_below (g := gb) (o := .cells #[.int .i64 x0, .slice A2 l2.length c2] 30 (0, 0)) (by (with_reducible repeat (first | refine blk_drewN ?_ _ | refine blk_drew ?_ | refine blk_alloc ?_ _)); exact BK171.out) hb)
      have n4_ := Aside0.mk (below_step (by repeat (first | (with_reducible first | exact HB.out | apply below_alloc | apply pw_below_drewN | apply below_drew1 | refine below_set ?_ GE171.out) | exact HB.out)) hb)
      clear HO_1
      try clear HO184
      clear BK171
      clear HB
      have HO_1 := n0_
      have HO184 := n1_
      have HO189 := n2_
      have BK171 := n3_
      have HB := n4_
      clear n0_ n1_ n2_ n3_ n4_
      clear hb ho35
      refine hK.out _ _ ⟨(blk_cell BK171.out 0).trans rfl, (blk_cell BK171.out 1).trans rfl⟩ (fun hHeld => ?_)
      clear hK K
      refine norm_ (a' := ?_) ?_ ?_
      rotate_left
      · show Act.put _ (some 91) _ = _
        simp only [Act.put, List.setIfInBounds_toArray, List.set_cons_zero, List.set_cons_succ, i64_w, i32_w]
        rfl
      refine one_ (i := 11) (N := some 93) (bb 25 3702783) rfl rfl (one_of HT_.out (by kernel_rfl)) (by decide) (fun K hK => ?_)
      refine Kd.N_append_rows_step k30 (w0 := w33) w33.heap.size (by rfl) (.tmp 91) (.tmp 92) 22 30 (.agg #[(.int .i64 0), (.slice none 0 0)]) 32 rfl Try.underlying22 info30 rfl (by decide) (by omega) v188 y187 out _ _ _ (fun k_ => ¬ F17 k_ ∧ k_ ≠ gb) (fun k_ => ((fun k_ => ¬ F17 k_ ∧ k_ ≠ gb)) k_ ∧ some k_ ≠ (v188 : Value).ownBlock) rfl rfl ?aO ?aR (fun _ hk => hk) ?aF ?aB ?aS ?aL ?_
      (case aR => exact (Kd.V_F HO_1.out))
      (case aB => exact (by repeat (first | (with_reducible first | exact HB.out | apply below_alloc | apply pw_below_drewN | apply below_drew1 | refine below_set ?_ GE171.out) | exact HB.out)))
      (case aF => exact (fun k_ hk => ⟨fun hF_ => by have h1_ := HFW.out k_ hF_; have h2_ := below_size HB.out; omega, fun e_ => by have h1_ := HGW.out; have h2_ := below_size HB.out; omega⟩))
      (case aO => exact (by (with_reducible repeat (first | apply Kd.N_alloc | apply Kd.N_drewN | apply Kd.N_drew)); exact HO189.out))
      (case aS => exact (below_size (by repeat (first | (with_reducible first | exact HB.out | apply below_alloc | apply pw_below_drewN | apply below_drew1 | refine below_set ?_ GE171.out) | exact HB.out))))
      (case aL => have := LMc26.out; omega)
      intro v191 w36 ho hb hg hat
      rw [← Ny190.out] at ho
      have n0_ := Aside0.mk trivial
      have n1_ := Aside0.mk (blk_grown (g := gb) (o := .cells #[.int .i64 x0, .slice A2 l2.length c2] 30 (0, 0)) (by (with_reducible repeat (first | refine blk_drewN ?_ _ | refine blk_drew ?_ | refine blk_alloc ?_ _)); exact BK171.out) hg (Kd.N_away HO189.out (fun _ hk => hk.2)))
      have n2_ := Aside0.mk trivial
      have n3_ := Aside0.mk (hb)
      have n4_ := Aside0.mk (ho)
      clear HO_1
      clear BK171
      try clear HO184
      clear HB
      clear HO189
      have HO_1 := n0_
      have BK171 := n1_
      have HO184 := n2_
      have HB := n3_
      have HO192 := n4_
      clear n0_ n1_ n2_ n3_ n4_
      clear ho hb hg hat
      refine hK.out _ _ ⟨(blk_cell BK171.out 0).trans rfl, (blk_cell BK171.out 1).trans rfl⟩ (fun hHeld => ?_)
      clear hK K
      refine norm_ (a' := ?_) ?_ ?_
      rotate_left
      · show Act.put _ (some 93) _ = _
        simp only [Act.put, List.setIfInBounds_toArray, List.set_cons_zero, List.set_cons_succ, i64_w, i32_w]
        rfl
      refine one_ (i := 15) (N := some 97) (bb 25 3735551) rfl rfl (one_of HT_.out (by kernel_rfl)) (by decide) (fun K hK => ?_)
      refine goes_ Try.func22 (by kernel_rfl) rfl #[.slice A2 l2.length c2] (by rfl) rfl rfl (by (try simp only [List.map_toArray, List.map_cons, List.map_nil]); first | done | rfl | (simp only [List.length_drop, List.length_take]; rfl)) ?_
      with_reducible refine (kilnlaw3_sector.calls kB _ _ l2 t322 _ ?side1 ?side2 HSEC.out).mono ?_
      (case side1 => repeat (first | exact (Kd.C_below HR2.out HB.out) | (with_reducible refine Kd.C_alloc ?_ _) | (with_reducible refine Kd.C_drewN ?_ _) | (with_reducible refine Kd.C_drew ?_)))
      (case side2 => exact HC2.out)
      rintro e w37 ⟨v194, rfl, ho0, hb⟩
      refine ⟨_, rfl, ?_⟩
      have n0_ := Aside0.mk trivial
      have n1_ := Aside0.mk trivial
      have n2_ := Aside0.mk (Kd.N_elder' (by (with_reducible repeat (first | apply Kd.N_alloc | apply Kd.N_drewN | apply Kd.N_drew)); exact HO192.out) (Kd.R_base ho0) hb)
      have n3_ := Aside0.mk (show Kd.R (Kd.int .u8) 5 w37 w33.heap.size (fun k_ => True ∧ ¬ F17 k_) v194 t322 from Kd.R_lower (Kd.R_of_own (Kd.own_of_R ho0) (fun k_ hk => ⟨trivial, fun hF_ => by have h1_ := HFW.out k_ hF_; have h2_ := below_size HB.out; have h3_ := Kd.R_base ho0 k_ hk; omega⟩)) (below_size HB.out))
      have n4_ := Aside0.mk (blk_below (g := gb) (o := .cells #[.int .i64 x0, .slice A2 l2.length c2] 30 (0, 0)) (by (with_reducible repeat (first | refine blk_drewN ?_ _ | refine blk_drew ?_ | refine blk_alloc ?_ _)); exact BK171.out) hb)
      have n5_ := Aside0.mk (below_step (by repeat (first | (with_reducible first | exact HB.out | apply below_alloc | apply pw_below_drewN | apply below_drew1 | refine below_set ?_ GE171.out) | exact HB.out)) hb)
      clear HO_1
      try clear HO184
      clear HO192
      clear BK171
      clear HB
      have HO_1 := n0_
      have HO184 := n1_
      have HO192 := n2_
      have HO195 := n3_
      have BK171 := n4_
      have HB := n5_
      clear n0_ n1_ n2_ n3_ n4_ n5_
      (try clear hb)
      (try clear hb2)
      (try clear hk)
      (try clear hi)
      (try clear ho0)
      obtain ⟨Ao38, co38, eo38⟩ := Kd.R_slice HO195.out
      (first | subst eo38 | (injection eo38 with f1_ f2_ f3_; have f4_ := f1_.symm; have f5_ := f3_.symm; clear f1_ f2_ f3_; subst f4_; subst f5_))
      refine hK.out _ _ ⟨(blk_cell BK171.out 0).trans rfl, (blk_cell BK171.out 1).trans rfl⟩ (fun hHeld => ?_)
      clear hK K
      refine norm_ (a' := ?_) ?_ ?_
      rotate_left
      · show Act.put _ (some 97) _ = _
        simp only [Act.put, List.setIfInBounds_toArray, List.set_cons_zero, List.set_cons_succ, i64_w, i32_w]
        rfl
      refine pure_ (i := 16) (N := some 98) (v := ?_) (a' := ?_) (bb 25 3801087) rfl rfl (any_of HT_.out (by kernel_rfl)) (fun _ _ _ h => h) (Or.inl ⟨by rfl, ?_⟩) ?_ ?_
      rotate_left
      · intro w'
        go_simp
        with_reducible rfl
      rotate_left
      · simp only [Act.put, List.setIfInBounds_toArray, List.set_cons_zero, List.set_cons_succ, i64_w, i32_w]
        rfl
      refine one_ (i := 17) (N := some 99) (bb 25 3932159) rfl rfl (one_of HT_.out (by kernel_rfl)) (by decide) (fun K hK => ?_)
      refine value_ (w1 := ?_) (v := ?_) (by rfl) rfl ?_ ?_
      rotate_left 2
      · go_simp
        constructor
        · rfl
        · rfl
      refine hK.out _ _ ⟨(blk_cell (blk_alloc BK171.out _) 0).trans rfl, (blk_cell (blk_alloc BK171.out _) 1).trans rfl⟩ (fun hHeld => ?_)
      clear hK K
      refine norm_ (a' := ?_) ?_ ?_
      rotate_left
      · show Act.put _ (some 99) _ = _
        simp only [Act.put, List.setIfInBounds_toArray, List.set_cons_zero, List.set_cons_succ, i64_w, i32_w]
        rfl
      refine one_ (i := 18) (N := some 100) (bb 25 4194303) rfl rfl (one_of HT_.out (by kernel_rfl)) (by decide) (fun K hK => ?_)
      refine Kd.N_append_step k30 (w0 := w33) w33.heap.size (by rfl) (.tmp 93) (.tmp 99) 22 30 (.agg #[(.int .i64 0), (.slice none 0 0)]) 32 rfl Try.underlying22 info30 rfl (by decide) (by omega) v191 y190 (⟨(i0 : Int), t322⟩ : S30) [.int .i64 (i0 : Int), .slice Ao38 t322.length co38] (fun k_ => ¬ F17 k_ ∧ k_ ≠ gb) (fun k_ => ((fun k_ => ¬ F17 k_ ∧ k_ ≠ gb)) k_ ∧ some k_ ≠ (v191 : Value).ownBlock) rfl rfl ?aP (fun _ hk => hk) ?aF ?aO ?aB ?aS ?aL ?_
      (case aP => exact (k30_mkF _ _ (⟨(i0 : Int), t322⟩ : S30) (Kd.R_reads' (Kd.R_mono (ok' := (fun k_ => ((fun k_ => ¬ F17 k_ ∧ k_ ≠ gb)) k_ ∧ some k_ ≠ (v191 : Value).ownBlock)) (Kd.R_types (Kd.R_apart' (HO195.out) (Kd.N_typed HO192.out) (by decide)) BK171.out (by decide)) (fun k_ hk => ⟨⟨hk.1.1.2, hk.2⟩, hk.1.2⟩))).2.1 (Kd.R_F (Kd.R_mono (ok' := (fun k_ => ((fun k_ => ¬ F17 k_ ∧ k_ ≠ gb)) k_ ∧ some k_ ≠ (v191 : Value).ownBlock)) (Kd.R_types (Kd.R_apart' (HO195.out) (Kd.N_typed HO192.out) (by decide)) BK171.out (by decide)) (fun k_ hk => ⟨⟨hk.1.1.2, hk.2⟩, hk.1.2⟩)))))
      (case aB => exact (by repeat (first | (with_reducible first | exact HB.out | apply below_alloc | apply pw_below_drewN | apply below_drew1 | refine below_set ?_ GE171.out) | exact HB.out)))
      (case aF => exact (fun k_ hk => ⟨fun hF_ => by have h1_ := HFW.out k_ hF_; have h2_ := below_size HB.out; omega, fun e_ => by have h1_ := HGW.out; have h2_ := below_size HB.out; omega⟩))
      (case aO => exact (by (with_reducible repeat (first | apply Kd.N_alloc | apply Kd.N_drewN | apply Kd.N_drew)); exact Kd.N_mono HO192.out (fun _ hk => hk.1)))
      (case aS => exact (below_size (by repeat (first | (with_reducible first | exact HB.out | apply below_alloc | apply pw_below_drewN | apply below_drew1 | refine below_set ?_ GE171.out) | exact HB.out))))
      (case aL => have := LMc28.out; omega)
      intro v197 w39 ho hb hg hat
      rw [← Ny196.out] at ho
      have n0_ := Aside0.mk trivial
      have n1_ := Aside0.mk (blk_grown (g := gb) (o := .cells #[.int .i64 x0, .slice A2 l2.length c2] 30 (0, 0)) (by (with_reducible repeat (first | refine blk_drewN ?_ _ | refine blk_drew ?_ | refine blk_alloc ?_ _)); exact BK171.out) hg (Kd.N_away HO192.out (fun _ hk => hk.1.2)))
      have n2_ := Aside0.mk trivial
      have n3_ := Aside0.mk (hb)
      have n4_ := Aside0.mk (ho)
      clear HO_1
      clear BK171
      try clear HO184
      clear HB
      clear HO192
      clear HO195
      have HO_1 := n0_
      have BK171 := n1_
      have HO184 := n2_
      have HB := n3_
      have HO198 := n4_
      clear n0_ n1_ n2_ n3_ n4_
      clear ho hb hg hat
      obtain ⟨Ao40, co40, eo40⟩ := Kd.N_slice HO198.out
      (first | subst eo40 | (injection eo40 with f1_ f2_ f3_; have f4_ := f1_.symm; have f5_ := f3_.symm; clear f1_ f2_ f3_; subst f4_; subst f5_))
      refine hK.out _ _ ⟨(blk_cell BK171.out 0).trans rfl, (blk_cell BK171.out 1).trans rfl⟩ (fun hHeld => ?_)
      clear hK K
      refine norm_ (a' := ?_) ?_ ?_
      rotate_left
      · show Act.put _ (some 100) _ = _
        simp only [Act.put, List.setIfInBounds_toArray, List.set_cons_zero, List.set_cons_succ, i64_w, i32_w]
        rfl
      refine one_ (i := 22) (N := some 104) (bb 25 8388607) rfl rfl (one_of HT_.out (by kernel_rfl)) (by decide) (fun K hK => ?_)
      refine goes_ Try.func18 (by kernel_rfl) rfl #[.pointer (some ⟨g2, 0, none⟩), .int .i64 (n : Int), .slice Ao40 y196.length co40, .int .i64 (wrap64 ((out.length : Int) + 1))] (by rfl) rfl rfl (by (try simp only [List.map_toArray, List.map_cons, List.map_nil]); first | done | rfl | (simp only [List.length_drop, List.length_take]; rfl)) ?_
      refine (HTe.out _ Ao40 co40 y196 (by rw [Ny196.out, Ny190.out, Ny187.out]; rfl) (HDe.out.below HB.out) (Kd.V_mono (Kd.N_V (base' := 0) HO198.out) (fun k_ hk => hk.1))).mono ?_
      rintro e w41 ⟨rfl, r8, hd8, hX8⟩
      refine ⟨_, rfl, ?_⟩
      have n3_ := Aside0.mk ((hX8.block gb (blk_lt BK171.out) HGE.out).trans BK171.out)
      have n4_ := Aside0.mk (Chg.below (below_step HBw.out HB.out) hX8 (below_size (below_step HBw.out HB.out)) (fun x hx => Nat.le_trans HS10.out (HF17g.out x hx)))
      clear BK171 HBw HB hd8 hX8
      have BK171 := n3_
      have HBw := n4_
      clear n3_ n4_
      refine hK.out _ _ ⟨(blk_cell BK171.out 0).trans rfl, (blk_cell BK171.out 1).trans rfl⟩ (fun hHeld => ?_)
      clear hK K
      refine norm_ (a' := ?_) ?_ ?_
      rotate_left
      · show Act.put _ (some 104) _ = _
        simp only [Act.put, List.setIfInBounds_toArray, List.set_cons_zero, List.set_cons_succ, i64_w, i32_w]
        rfl
      refine pure_ (i := 23) (N := some 105) (v := ?_) (a' := ?_) (bb 25 16777215) rfl rfl (any_of HT_.out (by kernel_rfl)) (fun _ _ _ h => h) (Or.inl ⟨by rfl, ?_⟩) ?_ ?_
      rotate_left
      · intro w'
        go_simp
        with_reducible rfl
      rotate_left
      · simp only [Act.put, List.setIfInBounds_toArray, List.set_cons_zero, List.set_cons_succ, i64_w, i32_w]
        rfl
      refine pure_ (i := 24) (N := some 6) (v := ?_) (a' := ?_) (bb 25 33554431) rfl rfl (any_of HT_.out (by kernel_rfl)) (fun _ _ _ h => h) (Or.inl ⟨by rfl, ?_⟩) ?_ ?_
      rotate_left
      · intro w'
        go_simp
        with_reducible rfl
      rotate_left
      · simp only [Act.put, List.setIfInBounds_toArray, List.set_cons_zero, List.set_cons_succ, i64_w, i32_w]
        rfl
      refine done_ (done_of HT_.out (by kernel_rfl)) ?_
      try go_wp2
      go_ret
      exact ⟨rfl, HBw.out⟩
end Go.Proofs.Ytddnhcnkjcdfgaa.M

namespace Go.Proofs.Ytddnhcnkjcdfgaa.Bulk
open Go.ChangeShapes Go.WideShapes Go.Proofs.YtddnhcnkjcdfgaaW.PrintWords
theorem one_le {H : Type} (d : DataW H) : 1 ≤ Rows.uptoBulk d := by
  cases d with
  | lit l => cases l <;> simp [Rows.uptoBulk]
  | nil => simp [Rows.uptoBulk]
  | ptr d => simp [Rows.uptoBulk]
  | slice elems spare => simp [Rows.uptoBulk]
  | agg parts => simp [Rows.uptoBulk]
  | iface t d => simp [Rows.uptoBulk]
  | map entries => simp [Rows.uptoBulk]
  | held h => simp [Rows.uptoBulk]
theorem part_le {H : Type} {d : DataW H} {l : List (DataW H)} (h : d ∈ l) : Rows.uptoBulk d ≤ Rows.uptoBulkAll l := by
  induction l with
  | nil => cases h
  | cons x r ih =>
    simp only [Rows.uptoBulkAll]
    cases List.mem_cons.1 h with
    | inl e => subst e; omega
    | inr e => have := ih e; omega
theorem length_le {H : Type} (l : List (DataW H)) : l.length ≤ Rows.uptoBulkAll l := by
  induction l with
  | nil => simp [Rows.uptoBulkAll]
  | cons x r ih => have := one_le x; simp only [Rows.uptoBulkAll, List.length_cons]; omega
theorem bound {H : Type} {l : List (DataW H)} (hk : Rows.uptoSmall H l = true) : Rows.uptoBulkAll l ≤ 1048576 := of_decide_eq_true hk
end Go.Proofs.Ytddnhcnkjcdfgaa.Bulk

namespace Go.Proofs.Ytddnhcnkjcdfgaa.Bulk
open Go.ChangeShapes Go.WideShapes Go.Proofs.YtddnhcnkjcdfgaaW.PrintWords Go.Proofs.Ytddnhcnkjcdfgaa.M
set_option linter.unusedVariables false
section
variable {H : Type} (enc : TypeId × Value → H) (P : Program) (W : World) (base : Nat) (spare : Nat → Bool) (held : Bool)
def Opens {α : Type} (t : TypeId) (d : Kd α) (Ok : α → Nat → Prop) : Prop :=
  ∀ (fuel : Nat) (cs : List Value) (x : DataW H × List MemPlace), DataW.trod enc P W base spare held fuel t cs = some x → ∃ y, d.K W y cs ∧ Ok y (Rows.uptoBulk x.1)
variable {enc P W base spare held}
theorem opens_int {t : TypeId} {k : IntKind} (ht : P.underlying t = some (.int k)) : Opens enc P W base spare held t (Kd.int k) (fun y _ => (Lit.int k y).wf = true) := by
  intro fuel cs x h
  obtain ⟨n, rfl, rfl, hw⟩ := DataW.trod_int ht h
  exact ⟨n, rfl, hw⟩
theorem cells_of {a : Addr} {n : Nat} {cs : List Value} (h : W.cells? base a n = some cs) : cs.length = n ∧ ∀ i u, cs[i]? = some u → W.cell? (a.add i) = some u := by
  obtain ⟨_, hl, hc⟩ := World.cells?_some h
  refine ⟨hl, fun i u hu => ?_⟩
  have hi : i < cs.length := (List.getElem?_eq_some_iff.1 hu).1
  rw [hc i (by omega), hu]
theorem opens_slice {α : Type} {t e q : TypeId} {d : Kd α} {Ok : α → Nat → Prop} (ht : P.underlying t = some (.slice e)) (hc : P.cellsOf e = d.sz)
    (hm : ∀ y m n, m ≤ n → Ok y m → Ok y n) (he : Opens enc P W base spare held e d Ok) :
    Opens enc P W base spare held t (Kd.slice q d) (fun ys n => ys.length ≤ n ∧ ∀ y ∈ ys, Ok y n) := by
  intro fuel cs x h
  rcases DataW.trod_slice ht h with ⟨rfl, rfl⟩ | ⟨a, len, cap, elems, rest, n, _, rfl, rfl, hb, hl, hmax, hlen, hel, _, _⟩
  · refine ⟨[], ⟨none, 0, rfl, Nat.le_refl _, rfl, Nat.zero_le _, fun h => absurd h (Nat.lt_irrefl _)⟩, by simp, fun y hy => by cases hy⟩
  · have each : ∀ i (hi : i < elems.length), ∃ y, (∃ c, c.length = d.sz ∧ d.K W y c ∧ ∀ j u, c[j]? = some u → W.cell? (a.add (i * d.sz + j)) = some u) ∧ Ok y (Rows.uptoBulk (elems[i]).1) := by
      intro i hi
      have h1 := hel i (by omega)
      rw [List.getElem?_eq_getElem hi, Option.bind_eq_some_iff] at h1
      obtain ⟨c, h2, h3⟩ := h1
      obtain ⟨y, hk, hok⟩ := he _ _ _ h3
      obtain ⟨hcl, hcell⟩ := cells_of h2
      rw [hc] at hcl hcell
      refine ⟨y, ⟨c, hcl, hk, fun j u hu => ?_⟩, hok⟩
      have := hcell j u hu
      rwa [Addr.add_add] at this
    have all : ∀ m, m ≤ elems.length → ∃ ys : List α, ys.length = m ∧ ∀ i y, ys[i]? = some y → (∃ c, c.length = d.sz ∧ d.K W y c ∧ ∀ j u, c[j]? = some u → W.cell? (a.add (i * d.sz + j)) = some u) ∧ ∃ hi : i < elems.length, Ok y (Rows.uptoBulk (elems[i]).1) := by
      intro m
      induction m with
      | zero => intro _; exact ⟨[], rfl, fun i y hy => by simp at hy⟩
      | succ m ih =>
        intro hm1
        obtain ⟨ys, hys, hall⟩ := ih (by omega)
        obtain ⟨y, hy, hoky⟩ := each m (by omega)
        refine ⟨ys ++ [y], by simp [hys], fun i z hz => ?_⟩
        by_cases hi : i < m
        · rw [List.getElem?_append_left (by omega)] at hz
          exact hall i z hz
        · have hi2 : i < (ys ++ [y]).length := (List.getElem?_eq_some_iff.1 hz).1
          simp [hys] at hi2
          obtain rfl : i = m := by omega
          rw [List.getElem?_append_right (by omega), hys] at hz
          simp at hz
          subst hz
          exact ⟨hy, by omega, hoky⟩
    obtain ⟨ys, hys, hall⟩ := all elems.length (Nat.le_refl _)
    have hbulk : Rows.uptoBulkAll (elems.map (·.1)) ≤ Rows.uptoBulk (DataW.slice (elems.map (·.1)) (rest.map (·.1))) := by simp only [Rows.uptoBulk]; omega
    refine ⟨ys, ⟨some a, cap, by rw [hys, hlen], by omega, rfl, ?_, fun _ => ⟨a, rfl, fun j p hp => (hall j p hp).1⟩⟩, ?_, fun y hy => ?_⟩
    · rw [hys, hlen]
      have : (maxLen : Nat) ≤ 9223372036854775807 := by decide
      omega
    · have := length_le (elems.map (·.1))
      rw [List.length_map] at this
      rw [hys]
      exact Nat.le_trans this hbulk
    · obtain ⟨i, hi⟩ := List.getElem?_of_mem hy
      obtain ⟨_, hlt, hok⟩ := hall i y hi
      refine hm y _ _ ?_ hok
      exact Nat.le_trans (part_le (List.mem_map.2 ⟨elems[i], List.getElem_mem hlt, rfl⟩)) hbulk
theorem arg_full {α : Type} {t q : TypeId} {d : Kd α} {Ok : List α → Nat → Prop} {a : Option Addr} {len cap : Nat} {dd : DataW H} {ps : List MemPlace}
    (hs : Opens enc P W base spare held t (Kd.slice q d) Ok) (h : DataW.Trod enc P W base spare held t (.slice a len cap) dd ps) : ∃ l, len = l.length ∧ l.length ≤ cap ∧ Kd.C d W a l.length l ∧ l.length ≤ 9223372036854775807 ∧ ∃ n, Ok l n := by
  obtain ⟨fuel, hf⟩ := h
  obtain ⟨l, ⟨A, c, he, hl, hC⟩, hok⟩ := hs _ _ _ hf
  simp [Value.cells] at he
  obtain ⟨rfl, rfl, rfl⟩ := he
  exact ⟨l, rfl, hl, hC, hC.2.1, _, hok⟩
end
section
variable {H : Type} {enc : TypeId × Value → H} {W : World} {base : Nat} {spare : Nat → Bool} {held : Bool}
theorem two_of_len {α : Type} {l : List α} (h : l.length = 2) : ∃ a b, l = [a, b] := by
  rcases l with _ | ⟨a, _ | ⟨b, _ | ⟨c, t⟩⟩⟩
  · simp at h
  · simp at h
  · exact ⟨a, b, rfl⟩
  · simp at h
theorem opens_28 : Opens enc Try.prog W base spare held 28 (Kd.slice 5 (Kd.int .u8)) (fun ys n => ys.length ≤ n ∧ ∀ y ∈ ys, (Lit.int .u8 y).wf = true) :=
  opens_slice Try.underlying28 (by kernel_rfl) (fun _ _ _ _ h => h) (opens_int Try.underlying5)
theorem opens_30 : Opens enc Try.prog W base spare held 30 Go.Proofs.Ytddnhcnkjcdfgaa.P.k30 (fun _ _ => True) := by
  intro fuel cs x h
  obtain ⟨xs, n, _, rfl, hl, hx, hf⟩ := DataW.trod_struct Try.underlying30 h
  rw [show Try.prog.cellsOf 30 = 2 by kernel_rfl] at hl
  obtain ⟨c0, c1, rfl⟩ : ∃ c0 c1, cs = [c0, c1] := two_of_len hl
  have hx2 : xs.length = 2 := hx
  obtain ⟨x0, x1, rfl⟩ : ∃ x0 x1, xs = [x0, x1] := two_of_len hx2
  have q3 : Try.prog.cellsOf 3 = 1 := by kernel_rfl
  have q28 : Try.prog.cellsOf 28 = 1 := by kernel_rfl
  have f0 : DataW.trod enc Try.prog W base spare held n 3 (([c0, c1].drop 0).take (Try.prog.cellsOf 3)) = some x0 := hf 0 _ rfl
  have f1 : DataW.trod enc Try.prog W base spare held n 28 (([c0, c1].drop 1).take (Try.prog.cellsOf 28)) = some x1 := hf 1 _ rfl
  rw [q3] at f0
  rw [q28] at f1
  obtain ⟨y0, k0, _⟩ := opens_int Try.underlying3 _ _ _ f0
  obtain ⟨y1, k1, _⟩ := opens_28 _ _ _ f1
  exact ⟨⟨y0, y1⟩, ⟨[c0], [c1], rfl, k0, k1⟩, trivial⟩
theorem arg_22 {a : Option Addr} {len cap : Nat} {dd : DataW H} {ps : List MemPlace}
    (h : DataW.Trod enc Try.prog W base spare held 22 (.slice a len cap) dd ps) : ∃ l, len = l.length ∧ l.length ≤ cap ∧ Kd.C Go.Proofs.Ytddnhcnkjcdfgaa.P.k30 W a l.length l ∧ l.length ≤ 9223372036854775807 ∧ True := by
  obtain ⟨l, h1, h2, h3, h4, _⟩ := arg_full (q := 30) (opens_slice Try.underlying22 (by kernel_rfl) (fun _ _ _ _ h => h) opens_30) h
  exact ⟨l, h1, h2, h3, h4, trivial⟩
end
end Go.Proofs.Ytddnhcnkjcdfgaa.Bulk
namespace Go.Proofs.Ytddnhcnkjcdfgaa.M
open Go.RowKit Go.Proofs.YtddnhcnkjcdfgaaW.PrintWords Go.Proofs.YtddnhcnkjcdfgaaW.PrintLast Go.Proofs.YtddnhcnkjcdfgaaW.PrintMore
open Go.Proofs.Ytddnhcnkjcdfgaa.P
set_option linter.unusedVariables false
end Go.Proofs.Ytddnhcnkjcdfgaa.M

namespace Go.Proofs.Ytddnhcnkjcdfgaa.Bulk
open Go.ChangeShapes Go.WideShapes Go.Proofs.YtddnhcnkjcdfgaaW.PrintWords Go.Proofs.Ytddnhcnkjcdfgaa.M
set_option linter.unusedVariables false
section
variable {H : Type} {enc : TypeId × Value → H} {W : World} {base : Nat} {spare : Nat → Bool} {held : Bool}
set_option maxRecDepth 100000 in
theorem arg_w {r : Reach} {b0 : Nat} {v : Value} {dd : DataW H} {ps : List MemPlace} (hv : Value.okWide Try.prog W r b0 30 v)
    (h : DataW.Trod enc Try.prog W base spare held 30 v dd ps) : ∃ (a : Int) (A : Option Addr) (l : List Int) (c : Nat), v = .agg #[.int .i64 a, .slice A l.length c] ∧ l.length ≤ c ∧ Kd.C (Kd.int .u8) W A l.length l := by
  obtain ⟨cs, rfl, hsz⟩ := okWide_struct Try.underlying30 hv
  obtain ⟨fuel, hf⟩ := h
  obtain ⟨y, hk, _⟩ := opens_30 _ _ _ hf
  obtain ⟨A, c, he, hl, hC⟩ := Go.Proofs.Ytddnhcnkjcdfgaa.P.k30_open hk
  refine ⟨y.f0, A, y.f1, c, ?_, hl, hC⟩
  have h1 : cs.toList = [.int .i64 y.f0, .slice A y.f1.length c] := he
  rw [← h1]
end
end Go.Proofs.Ytddnhcnkjcdfgaa.Bulk
namespace Go.Proofs.Ytddnhcnkjcdfgaa.M
open Go.RowKit Go.Proofs.YtddnhcnkjcdfgaaW.PrintWords Go.Proofs.YtddnhcnkjcdfgaaW.PrintLast Go.Proofs.YtddnhcnkjcdfgaaW.PrintMore
open Go.Proofs.Ytddnhcnkjcdfgaa.P
set_option linter.unusedVariables false
theorem rd_app (out : List S30) (x : S30) (j : Nat) (hj : j < out.length) : rd_T30 (out ++ [x]) (j : Int) = rd_T30 out (j : Int) := by
  unfold rd_T30
  rw [Int.toNat_natCast, List.getD_eq_getElem?_getD, List.getD_eq_getElem?_getD, List.getElem?_append_left hj]
theorem rd_app_last (out : List S30) (x : S30) : rd_T30 (out ++ [x]) (out.length : Int) = x := by
  unfold rd_T30
  rw [Int.toNat_natCast, List.getD_eq_getElem?_getD, List.getElem?_append_right (Nat.le_refl _), Nat.sub_self]
  rfl
theorem lastOf_app (out : List S30) (x : S30) (i : Int) : ∀ m, m ≤ out.length → lastOf (out ++ [x]) i m = lastOf out i m
  | 0, _ => rfl
  | m + 1, h => by
    unfold lastOf
    rw [rd_app out x m (by omega), lastOf_app out x i m (by omega)]
set_option maxRecDepth 100000 in
theorem again_all (a0 : Int) (A1 : Option Addr) (c1 : Nat) (l1 : List S30) (x0 : Int) (A2 : Option Addr) (c2 : Nat) (l2 : List Int) (w : World)
    (hr1 : Kd.C k30 w A1 l1.length l1) (hc1 : l1.length ≤ c1) (hr2 : Kd.C (Kd.int .u8) w A2 l2.length l2) (hc2 : l2.length ≤ c2) :
    Calls Try.prog 5 #[.int .i64 a0, .slice A1 l1.length c1, .agg #[.int .i64 x0, .slice A2 l2.length c2]] w fun e w' => e = .returned (.bool true) ∧ Below w.heap.size w w' := by
  obtain ⟨k, n, out, hk, h2, hm, hlen, hg⟩ := made_ok a0 l1
  obtain ⟨i0r, hi0r, hi00, hi01⟩ := mod_ok x0 (n : Int) (by omega) (by omega)
  obtain ⟨i0, rfl⟩ : ∃ i0 : Nat, i0r = (i0 : Int) := ⟨i0r.toNat, by omega⟩
  obtain ⟨t, ht, htl⟩ := sector_ok l2 0
  have hp : ∀ j, j < out.length → 0 ≤ (rd_T30 out (j : Int)).f0 := fun j hj => by
    obtain ⟨⟨i, _, e⟩, _⟩ := hg.at_ j hj
    omega
  have hL : ∀ i, i < n → ((runD n out (-1) out.length).flush).L.getD i [] = lastOf out (i : Int) out.length := fun i hi => by
    have h1 : ((runD n out (-1) out.length).flush).L.getD i [] = ((runD n out (-1) out.length).flush).cur i := rfl
    rw [h1, cur_flush _ _ (by rw [runD_n]; exact hi)]
    exact runD_cur n out (-1) hp i hi _ (Nat.le_refl _)
  refine again_calls k 513 a0 A1 c1 l1 x0 A2 c2 l2 w hr1 hc1 hr2 hc2 n out hk h2 hm hlen hg i0 hi0r (by omega) t ht htl _ rfl (fun i hi => ⟨out.length + 1, ?_⟩) (fun i hi => ⟨out.length + 1 + 1, ?_⟩)
  · rw [hL i hi]
    exact last_ok out (i : Int) (by omega) out.length (Nat.le_refl _)
  · have h_ := last_ok (out ++ [⟨(i0 : Int), t⟩]) (i : Int) (by simp; omega) (out.length + 1) (by simp)
    rw [show ((out.length + 1 : Nat) : Int) = wrap64 ((out.length : Int) + 1) from by rw [w64 _ (by omega) (by omega)]; rfl] at h_
    rw [h_, cur_flush _ _ (by show i < n; exact hi), cur_put]
    congr 1
    unfold lastOf
    rw [rd_app_last, lastOf_app out _ _ _ (Nat.le_refl _)]
    by_cases e : i = i0
    · subst e
      rw [if_pos rfl, if_pos rfl]
    · rw [if_neg (by show ¬ (i0 : Int) = (i : Int); omega), if_neg e]
      exact (hL i hi).symm
def againF (_k : Nat) (_a : Int) (_l : List S30) (_x : Int) (_b : List Int) : Option Bool := some true
theorem again_row (k : Nat) (a0 : Int) (A1 : Option Addr) (c1 : Nat) (l1 : List S30) (x0 : Int) (A2 : Option Addr) (c2 : Nat) (l2 : List Int) (r : Bool) (w : World)
    (hr1 : Kd.C k30 w A1 l1.length l1) (hc1 : l1.length ≤ c1) (hr2 : Kd.C (Kd.int .u8) w A2 l2.length l2) (hc2 : l2.length ≤ c2) (h : againF k a0 l1 x0 l2 = some r) :
    Calls Try.prog 5 #[.int .i64 a0, .slice A1 l1.length c1, .agg #[.int .i64 x0, .slice A2 l2.length c2]] w fun e w' => e = .returned (.bool r) ∧ Below w.heap.size w w' := by
  cases h
  exact again_all a0 A1 c1 l1 x0 A2 c2 l2 w hr1 hc1 hr2 hc2
theorem again_pure : ∀ (a0 : Int) (l1 : List S30) (x0 : Int) (l2 : List Int), (Lit.int .i64 a0).wf = true → l1.length ≤ 9223372036854775807 → True → ∃ k, againF k a0 l1 x0 l2 = some true := fun _ _ _ _ _ _ _ => ⟨0, rfl⟩
end Go.Proofs.Ytddnhcnkjcdfgaa.M

namespace Go.Proofs.Ytddnhcnkjcdfgaa.diskAgainLoads
open Go.ChangeShapes Go.WideShapes Go.ChangeAt Go.RowKit Go.Proofs.YtddnhcnkjcdfgaaW.PrintWords Go.Proofs.YtddnhcnkjcdfgaaW.PrintLast Go.Proofs.YtddnhcnkjcdfgaaW.PrintMore Go.Proofs.Ytddnhcnkjcdfgaa.P Go.Proofs.Ytddnhcnkjcdfgaa.M
set_option linter.unusedVariables false
theorem own : ownKnob Try.prog.godebug = none := by kernel_rfl
theorem laidOut : laidOutB Try.prog = true := by kernel_rfl
def IsRow (k : IntKind) (w : World) (a : Option Addr) (len cap : Nat) (zs : List Int) : Prop :=
  (a = none ∧ len = 0 ∧ cap = 0 ∧ zs = []) ∨
  ∃ x, a = some x ∧ len ≤ cap ∧ cap ≤ maxLen ∧ zs.length = cap ∧ (∀ i, i < zs.length → w.cell? (x.add i) = some (.int k (zs.getD i 0))) ∧ ∀ n ∈ zs, (Lit.int k n).wf = true
set_option maxRecDepth 100000 in
theorem contract (H : Type) (enc : TypeId × Value → H) (W : World) (base : Nat) (args : Array Value) (ds gs : List (DataW H)) (before : List MemPlace)
    (hval : ∀ (j : Nat) t v, Try.f5.params[j]? = some t → args[j]? = some v → Value.okWide Try.prog W .any base t v)
    (hW : DataW.Whole enc Try.prog Try.f5.params.toList Rows.diskAgainLoadsSpec.vars false W args.toList ds gs before)
    (hsz0 : (DataW.weightsEach Try.prog (Try.f5.params.toList ++ Rows.diskAgainLoadsSpec.plain.varTypes Try.prog) (ds ++ gs)).all (· ≤ reachBytes) = true)
    (hL : laidMetH Try.prog Rows.diskAgainLoadsRow.laid W) :
    Calls Try.prog 5 args W fun e W' => ∃ v, e = .returned v ∧ Rows.diskAgainLoadsSpec.post enc Try.prog Try.f5 false true false false W args v W' := by
  have hW' := hW
  have hsz : (DataW.weightsEach Try.prog (Try.f5.params.toList ++ Rows.diskAgainLoadsSpec.plain.varTypes Try.prog) (ds ++ gs)).all (· ≤ reachBytes) = true := hsz0
  obtain ⟨p, q, hA0, hV, rfl, hfz, hnd⟩ := hW
  have hA : DataW.TrodAll enc Try.prog W 0 (fun _ => true) true Try.f5.params.toList args.toList ds p := hA0
  rw [Try.params5] at hA hval hsz
  obtain ⟨v0, vs0, d0, ds0, p0, q0, hargs, rfl, rfl, h0, r0⟩ := trodAll_cons hA
  obtain ⟨v1, vs1, d1, ds1, p1, q1, rfl, rfl, rfl, h1, r1⟩ := trodAll_cons r0
  obtain ⟨v2, vs2, d2, ds2, p2, q2, rfl, rfl, rfl, h2, r2⟩ := trodAll_cons r1
  obtain ⟨rfl, rfl, rfl⟩ := trodAll_nil r2
  obtain rfl : args = #[v0, v1, v2] := by cases args; simp_all
  obtain ⟨rfl, rfl⟩ := trodVars_none hV
  obtain ⟨a0, rfl, rfl, rfl, w0⟩ := open_int Try.underlying3 (hval 0 3 v0 rfl rfl) h0
  obtain ⟨a1, len1, cap1, rfl⟩ := okWide_slice Try.underlying22 (hval 1 22 v1 rfl rfl)
  have k1 := h1
  have lt1 : ∀ x ∈ p1, x.block < W.heap.size := by obtain ⟨m, hm⟩ := k1; exact DataW.trod_lt m _ _ _ hm
  obtain ⟨l1, rfl, hc1, hr1, hn1, hw1⟩ := Bulk.arg_22 h1
  have k2 := h2
  have lt2 : ∀ x ∈ p2, x.block < W.heap.size := by obtain ⟨m, hm⟩ := k2; exact DataW.trod_lt m _ _ _ hm
  obtain ⟨a2, A2, l2, cw2, rfl, hc2, hr2⟩ := Bulk.arg_w (hval 2 30 v2 rfl rfl) h2
  clear hA0 hsz0 hsz
  obtain ⟨k, h⟩ := M.again_pure a0 l1 a2 l2 w0 (by omega) hw1
  refine (M.again_row k a0 _ _ l1 a2 _ _ l2 true W hr1 hc1 hr2 hc2 h).mono ?_
  rintro e W' ⟨rfl, bel⟩
  exact ⟨_, rfl, _, _, _, [], _, [], hW', trodAll_mk1 (shut_bool Try.underlying4 _), (trodAll_cons_mk (shut_int Try.underlying3 w0) (trodAll_cons_mk (Below.trod laidOut (by kernel_rfl) (of_decide_eq_true (by kernel_rfl)) k1 bel lt1) (trodAll_cons_mk (Below.trod laidOut (by kernel_rfl) (of_decide_eq_true (by kernel_rfl)) k2 bel lt2) trodAll_mk0))), rfl, bel.frame _, fun h => by cases h⟩
noncomputable def laidWorld (os : Os) : World := World.holding Try.prog os ⟨#[], #[], []⟩
theorem laid_met (os : Os) : laidMet Try.prog Rows.diskAgainLoadsRow.laid ((laidWorld os).forCall (fun _ _ => 0) ⟨#[], #[.int .i64 0, .slice none 0 0, .agg #[.int .i64 0, .slice none 0 0]], []⟩).memory :=
  laidMet_of_run' 8 (by kernel_rfl) (by kernel_rfl)
theorem reads (os : Os) {H : Type} (enc : TypeId × Value → H) : ∃ places, DataW.whole enc Try.prog ((laidWorld os).forCall (fun _ _ => 0) ⟨#[], #[.int .i64 0, .slice none 0 0, .agg #[.int .i64 0, .slice none 0 0]], []⟩).memory Try.f5.params.toList Rows.diskAgainLoadsSpec.vars false (#[.int .i64 0, .slice none 0 0, .agg #[.int .i64 0, .slice none 0 0]] : Array Value).toList 8 = some ([.lit (.int .i64 0), .nil, .agg [.lit (.int .i64 0), .nil]], [], places) :=
  ⟨[], by kernel_rfl⟩
set_option maxRecDepth 100000 in
theorem lifted (os : Os) (started : os.Started) (H : Type) (enc : TypeId × Value → H) (F : Stop.Interp) :
    ReturnsInHanded {} Try.checked os 5 .any ((OpenSpec.ofChange Rows.diskAgainLoadsSpec).preRow enc Try.prog Try.f5 Rows.diskAgainLoadsRow.domain false Rows.diskAgainLoadsRow.laid) (((OpenSpec.ofChange Rows.diskAgainLoadsSpec).at F).post enc Try.prog Try.f5 false true false false) := by
  obtain ⟨places, hx⟩ := reads os enc
  refine returnsInHanded_of_row (C := Try.checked) (s := OpenSpec.ofChange Rows.diskAgainLoadsSpec) own started (by kernel_rfl) Try.func5
    (witness_row_at (enc := enc) (C := Try.checked) false (laidWorld os) #[.int .i64 0, .slice none 0 0, .agg #[.int .i64 0, .slice none 0 0]] rfl (by kernel_rfl) (by kernel_rfl) (by kernel_rfl)
      (OpenSpec.preRow_of_cond 8 hx (by kernel_rfl) (fun k hk => by cases hk) (by kernel_rfl) (laid_met os))) ?_
  intro W base args ds gs before hval hW _ hcond hsz hL _ _
  exact contract H enc W base args ds gs before hval hW hsz hL
theorem said : Rows.DiskAgainLoadsSaid :=
  OpenClaim.holds_of_cond 5 Try.f5 rfl rfl rfl rfl rfl rfl rfl ⟨rfl, rfl, rfl, rfl, rfl⟩ rfl rfl rfl rfl rfl (by kernel_rfl) Try.func5 (by kernel_rfl)
    (of_decide_eq_true (by kernel_rfl)) (by unfold Func.isWrapper; first | (rw [if_pos (by decide +kernel)]; kernel_rfl) | (rw [if_neg (by decide +kernel)]; exact ⟨rfl, rfl⟩))
    (fun os started H enc _ F => by rw [OpenClaim.pre_eq_preRow]; exact lifted os started H enc F)
#print axioms said
end Go.Proofs.Ytddnhcnkjcdfgaa.diskAgainLoads
namespace Go.Proofs.Ytddnhcnkjcdfgaa
theorem diskAgainLoads_holds : Rows.DiskAgainLoadsSaid := diskAgainLoads.said
end Go.Proofs.Ytddnhcnkjcdfgaa
