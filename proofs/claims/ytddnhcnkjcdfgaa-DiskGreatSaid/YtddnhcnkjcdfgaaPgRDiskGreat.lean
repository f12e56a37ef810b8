/- DiskGreat: of up to 2000 sectors, each written up to 2000 times since the last Flush, each is behind a crash the very one that its fate says. -/
import Derived.Test.YtddnhcnkjcdfgaaPgZ0
import Derived.Test.YtddnhcnkjcdfgaaProg
import Derived.Below
import Derived.Deep.Draws
import Derived.Deep.AppendLies
import Derived.Maps.AppendAt
import Derived.OwnWalk
import Derived.Laws.BytesArg
import Derived.Laws.MakeOwn
import Derived.Laws.OwnMore
import Derived.Deep.OwnRows
import Derived.Tactics
import Derived.Lib.ConvBytes
import Derived.Laws.Slices
import Derived.WalkKit
import Derived.KernelRfl
import Derived.RowKit3
import Derived.Deep.LoopGhost
import Derived.Deep.QuietTactic
import Derived.BigQuiet
import Derived.WideLaws
import Derived.Deep.DeepCutAuto
import Derived.Deep.CutBlock
import Derived.Deep.RegionHeld3
import Derived.Laws.Rows
import Derived.Lib.AppendStr
import Derived.ArgAppend
import Derived.Laws.IdiomCopy
import Derived.OrdersHeld
import Derived.Laws.BitsLemmas
import Derived.RowKit
import Derived.Laws.BitsAllLaws
import Derived.StillTailTactics
import Derived.Deep.WholeRow
import Derived.Maps.RangeWalk
import Derived.Maps.OwnOps
import Derived.WalkSpells
import Derived.Deep.MidRow
import Derived.Great.BuildSlice
import Derived.Deep.DrawnRows
import Derived.Great.Walk
import Derived.Shelf.SlIterI.Nil
import Derived.Shelf.SortM.Plain
import Derived.Shelf.SortM.SortNone
import Derived.Ground.GgzProg
import Derived.Ground.SlgmProg
import Derived.Test.YtddnhcnkjcdfgaaRows
import Derived.ProofKit
import Derived.OpenShut
import Derived.ShutString
import Derived.ChangeOld
import Derived.SizedLaws
import Derived.Deep.DeepHandedRow
import Derived.Lib.LaidTab
namespace Go.Proofs.Ytddnhcnkjcdfgaa.M
open Go.RowKit Go.Maps Go.Proofs.YtddnhcnkjcdfgaaW.PrintWords Go.Proofs.YtddnhcnkjcdfgaaW.PrintLast Go.Proofs.YtddnhcnkjcdfgaaW.PrintMore
set_option linter.unusedVariables false
set_option linter.unusedSimpArgs false
def sec : Kd (List Int) where
  sz := 512
  E := []
  K := fun _ l cs => l.length = 512 ∧ cs = nums .u8 l
  M := fun _ _ _ l cs => l.length = 512 ∧ cs = nums .u8 l
  K_len := by
    rintro w x cs ⟨h, rfl⟩
    rw [nums_length, h]
  K_one := by
    rintro w x cs ⟨h, rfl⟩ u hu
    obtain ⟨y, _, rfl⟩ := List.mem_map.1 hu
    rfl
  K_below := fun _ h => h
  K_of_M := fun h => h
  M_mono := fun _ h => h
  M_bound := fun h => h
  M_move := fun _ h => h
  M_lower := fun _ h => h
def Rs (w : World) (base : Nat) (v : Value) (l : List (List Int)) : Prop := Kd.R sec 91 w base (fun k => v.ownBlock = some k) v l
structure Chg (F : Nat → Prop) (w w' : World) : Prop where
  os : w'.os = w.os
  tape : w'.tape = w.tape
  output : w'.output = w.output
  size : w.heap.size ≤ w'.heap.size
  block : ∀ b, b < w.heap.size → ¬ F b → w'.heap[b]? = w.heap[b]?
theorem Chg.refl (F : Nat → Prop) (w : World) : Chg F w w := ⟨rfl, rfl, rfl, Nat.le_refl _, fun _ _ _ => rfl⟩
theorem Chg.trans {F G : Nat → Prop} {a b c : World} (h : Chg F a b) (k : Chg G b c) (hg : ∀ x, G x → F x ∨ a.heap.size ≤ x) : Chg F a c :=
  ⟨k.os.trans h.os, k.tape.trans h.tape, k.output.trans h.output, Nat.le_trans h.size k.size, fun x hx hn => (k.block x (Nat.lt_of_lt_of_le hx h.size) (fun hG => by rcases hg x hG with h1 | h1; exact hn h1; omega)).trans (h.block x hx hn)⟩
theorem Chg.mono {F G : Nat → Prop} {a b : World} (h : Chg F a b) (hg : ∀ x, F x → G x) : Chg G a b := ⟨h.os, h.tape, h.output, h.size, fun x hx hn => h.block x hx (fun hF => hn (hg x hF))⟩
theorem Chg.of_below {F : Nat → Prop} {a b : World} (h : Below a.heap.size a b) : Chg F a b := ⟨h.os, h.tape, h.output, h.size, fun x hx _ => h.block x hx⟩
theorem Chg.of_grown {F : Nat → Prop} {a b : World} {row : Option Nat} (h : a.grownBy b row) (hr : ∀ k, row = some k → F k) : Chg F a b := ⟨h.os, h.tape, h.output, h.size, fun x hx hn => h.block x hx (fun e => hn (hr x e.symm))⟩
theorem Chg.below {F : Nat → Prop} {w0 a b : World} {B : Nat} (h : Below B w0 a) (k : Chg F a b) (hB : B ≤ a.heap.size) (hF : ∀ x, F x → B ≤ x) : Below B w0 b :=
  ⟨k.os.trans h.os, k.tape.trans h.tape, k.output.trans h.output, Nat.le_trans h.size k.size, fun x hx => (k.block x (Nat.lt_of_lt_of_le hx hB) (fun hf => by have := hF x hf; omega)).trans (h.block x hx)⟩
theorem Chg.setCell {F : Nat → Prop} {a b : World} (h : Chg F a b) {g : Nat} (hg : F g) (j : Nat) (v : Value) : Chg F a (b.setCell ⟨g, j, none⟩ v) :=
  ⟨h.os, h.tape, h.output, by simpa [World.setCell] using h.size, fun x hx hn => (Below.heap_setCell b ⟨g, j, none⟩ v x (fun e => hn (e ▸ hg))).trans (h.block x hx hn)⟩
theorem Rs.step {w w1 : World} {base : Nat} {v : Value} {l : List (List Int)} (h : Rs w base v l) (hm : ∀ k, v.ownBlock = some k → k < w.heap.size → w1.heap[k]? = w.heap[k]?) : Rs w1 base v l := Kd.R_step h hm
theorem Rs.chg {F : Nat → Prop} {w w1 : World} {base : Nat} {v : Value} {l : List (List Int)} (h : Rs w base v l) (hc : Chg F w w1) (hF : ∀ k, v.ownBlock = some k → ¬ F k) : Rs w1 base v l := h.step (fun k hk hlt => hc.block k hlt (hF k hk))
theorem Rs.below {w w1 : World} {base : Nat} {v : Value} {l : List (List Int)} (h : Rs w base v l) (hb : Below w.heap.size w w1) : Rs w1 base v l := Kd.R_below h hb
theorem Rs.of {w : World} {base : Nat} {ok : Nat → Prop} {v : Value} {l : List (List Int)} (h : Kd.R sec 91 w base ok v l) : Rs w base v l :=
  ⟨fun k hk => hk, h.2.imp_ (fun _ _ hp => hp)⟩
theorem Rs.typed {w : World} {base : Nat} {v : Value} {l : List (List Int)} (h : Rs w base v l) {k : Nat} (hk : v.ownBlock = some k) : base ≤ k ∧ k < w.heap.size ∧ ∃ cs, w.heap[k]? = some (.cells cs 91 (0, 0)) :=
  ⟨Kd.R_base h k hk, Kd.R_lt h k hk, Kd.R_typed h k hk⟩
theorem Rs.each {w : World} {base : Nat} {v : Value} {l : List (List Int)} (h : Rs w base v l) : ∀ x ∈ l, x.length = 512 := by
  intro x hx
  obtain ⟨i, hi⟩ := List.getElem?_of_mem hx
  obtain ⟨_, inner, _, hr⟩ := h
  exact (hr.2 i x hi).1
def asIs (v : Value) : Option (DataW Value × List MemPlace) := some (.held v, [])
structure DS where
  n : Nat
  L : List (List Int)
  W : Nat → List (List Int)
  c : Nat
  r : Int
  wr : Int
  fl : Int
def Fp (g lb mb : Nat) (f : Nat → Value) (n : Nat) (b : Nat) : Prop := b = g ∨ b = lb ∨ b = mb ∨ ∃ i, i < n ∧ (f i).ownBlock = some b
structure DkIn (w : World) (base g : Nat) (s : DS) (lb cp mb : Nat) (f : Nat → Value) (k : Nat) (D : DataW Value) : Prop where
  hd : w.heap[g]? = some (.cells #[.slice (some ⟨lb, 0, none⟩) s.n cp, .map (some mb), .int .i64 s.r, .int .i64 s.wr, .int .i64 s.fl] 89 (0, 0))
  la : Rs w base (.slice (some ⟨lb, 0, none⟩) s.n cp) s.L
  mp : w.ownsMap Try.prog 3 asIs mb k D
  kc : k ≤ s.c
  at_ : ∀ i : Nat, i < s.n → D.atKey (.int .i64 i) (.held (.slice none 0 0)) = .held (f i)
  ks : ∀ kl, Maps.has D kl = true → ∃ i : Nat, i < s.n ∧ kl = .int .i64 i ∧ s.W i ≠ []
  rows : ∀ i, i < s.n → Rs w base (f i) (s.W i)
  wl : ∀ i, i < s.n → (s.W i).length ≤ s.c
  sep : ∀ i j b, i < s.n → j < s.n → (f i).ownBlock = some b → (f j).ownBlock = some b → i = j
  sepl : ∀ i, i < s.n → (f i).ownBlock ≠ some lb
  gb : base ≤ g
  mbb : base ≤ mb
  n2 : 2 ≤ s.n
  nm : s.n ≤ 65536
def DkAt (w : World) (base g : Nat) (F : Nat → Prop) (s : DS) : Prop := ∃ lb cp mb f k D, DkIn w base g s lb cp mb f k D ∧ ∀ b, F b ↔ Fp g lb mb f s.n b
section
variable {w w' : World} {base g lb cp mb k : Nat} {F G : Nat → Prop} {s : DS} {f : Nat → Value} {D : DataW Value}
theorem DkIn.foot (h : DkIn w base g s lb cp mb f k D) (b : Nat) (hb : Fp g lb mb f s.n b) : base ≤ b ∧ b < w.heap.size := by
  rcases hb with rfl | rfl | rfl | ⟨i, hi, hb⟩
  · exact ⟨h.gb, blk_lt h.hd⟩
  · exact ⟨(h.la.typed rfl).1, (h.la.typed rfl).2.1⟩
  · exact ⟨h.mbb, h.mp.lt⟩
  · exact ⟨((h.rows i hi).typed hb).1, ((h.rows i hi).typed hb).2.1⟩
theorem DkIn.lbg (h : DkIn w base g s lb cp mb f k D) : lb ≠ g := by
  obtain ⟨cs, hc⟩ := (h.la.typed rfl).2.2
  exact blk_ne hc h.hd (by decide)
theorem DkIn.mbg (h : DkIn w base g s lb cp mb f k D) : mb ≠ g := by
  obtain ⟨es, ck, hb, _⟩ := h.mp
  intro e
  rw [e, h.hd] at hb
  cases hb
theorem DkIn.mbl (h : DkIn w base g s lb cp mb f k D) : mb ≠ lb := by
  obtain ⟨es, ck, hb, _⟩ := h.mp
  obtain ⟨cs, hc⟩ := (h.la.typed rfl).2.2
  intro e
  rw [e, hc] at hb
  cases hb
theorem DkIn.rowg (h : DkIn w base g s lb cp mb f k D) {i b : Nat} (hi : i < s.n) (hb : (f i).ownBlock = some b) : b ≠ g ∧ b ≠ mb ∧ b ≠ lb := by
  obtain ⟨cs, hc⟩ := ((h.rows i hi).typed hb).2.2
  refine ⟨blk_ne hc h.hd (by decide), ?_, fun e => h.sepl i hi (e ▸ hb)⟩
  obtain ⟨es, ck, hm, _⟩ := h.mp
  intro e
  rw [← e, hc] at hm
  cases hm
theorem DkIn.chg (h : DkIn w base g s lb cp mb f k D) (hc : Chg G w w') (hG : ∀ b, Fp g lb mb f s.n b → ¬ G b) : DkIn w' base g s lb cp mb f k D := by
  refine ⟨(hc.block g (blk_lt h.hd) (hG g (.inl rfl))).trans h.hd, h.la.chg hc (fun b hb => hG b (.inr (.inl (Option.some.inj hb).symm))), ?_, h.kc, h.at_, h.ks, fun i hi => (h.rows i hi).chg hc (fun b hb => hG b (.inr (.inr (.inr ⟨i, hi, hb⟩)))), h.wl, h.sep, h.sepl, h.gb, h.mbb, h.n2, h.nm⟩
  obtain ⟨es, ck, hb, r⟩ := h.mp
  exact ⟨es, ck, (hc.block mb (blk_lt hb) (hG mb (.inr (.inr (.inl rfl))))).trans hb, r⟩
theorem DkAt.chg (h : DkAt w base g F s) (hc : Chg G w w') (hG : ∀ b, F b → ¬ G b) : DkAt w' base g F s := by
  obtain ⟨lb, cp, mb, f, k, D, h1, h2⟩ := h
  exact ⟨lb, cp, mb, f, k, D, h1.chg hc (fun b hb => hG b ((h2 b).2 hb)), h2⟩
theorem DkAt.below (h : DkAt w base g F s) (hb : Below w.heap.size w w') : DkAt w' base g F s := h.chg (G := fun _ => False) (Chg.of_below hb) (fun _ _ => id)
theorem DkAt.foot (h : DkAt w base g F s) (b : Nat) (hb : F b) : base ≤ b ∧ b < w.heap.size := by
  obtain ⟨lb, cp, mb, f, k, D, h1, h2⟩ := h
  exact h1.foot b ((h2 b).1 hb)
theorem DkAt.typed (h : DkAt w base g F s) {b t : Nat} {cs : Array Value} {fr : Nat × Nat} (hb : w.heap[b]? = some (.cells cs t fr)) (h1 : t ≠ 89) (h2 : t ≠ 91) : ¬ F b := by
  obtain ⟨lb, cp, mb, f, k, D, h3, h4⟩ := h
  intro hF
  rcases (h4 b).1 hF with rfl | rfl | rfl | ⟨i, hi, hbi⟩
  · rw [h3.hd] at hb; injection hb with hb; injection hb with _ hb _; exact h1 hb.symm
  · obtain ⟨cs, hc⟩ := (h3.la.typed rfl).2.2
    rw [hc] at hb; injection hb with hb; injection hb with _ hb _; exact h2 hb.symm
  · obtain ⟨es, ck, hm, _⟩ := h3.mp
    rw [hm] at hb; cases hb
  · obtain ⟨cs, hc⟩ := ((h3.rows i hi).typed hbi).2.2
    rw [hc] at hb; injection hb with hb; injection hb with _ hb _; exact h2 hb.symm
theorem DkAt.n_le (h : DkAt w base g F s) : 2 ≤ s.n ∧ s.n ≤ 65536 := by
  obtain ⟨lb, cp, mb, f, k, D, h3, h4⟩ := h
  exact ⟨h3.n2, h3.nm⟩
theorem DkAt.lasts (h : DkAt w base g F s) : s.L.length = s.n ∧ ∀ x ∈ s.L, x.length = 512 := by
  obtain ⟨lb, cp, mb, f, k, D, h3, h4⟩ := h
  exact ⟨(Kd.R_reads' h3.la).1.symm, h3.la.each⟩
theorem DkIn.acts (h : DkIn w base g s lb cp mb f k D) (j : Nat) (x : Int) (s' : DS) (hs : s'.n = s.n ∧ s'.L = s.L ∧ s'.W = s.W ∧ s'.c = s.c)
    (hj : #[Value.slice (some ⟨lb, 0, none⟩) s.n cp, .map (some mb), .int .i64 s.r, .int .i64 s.wr, .int .i64 s.fl].setIfInBounds j (.int .i64 x) = #[Value.slice (some ⟨lb, 0, none⟩) s.n cp, .map (some mb), .int .i64 s'.r, .int .i64 s'.wr, .int .i64 s'.fl]) :
    DkIn (w.setCell ⟨g, j, none⟩ (.int .i64 x)) base g s' lb cp mb f k D := by
  obtain ⟨e1, e2, e3, e4⟩ := hs
  have far : ∀ b, b ≠ g → (w.setCell ⟨g, j, none⟩ (.int .i64 x)).heap[b]? = w.heap[b]? := fun b hb => Below.heap_setCell w ⟨g, j, none⟩ _ b hb
  refine ⟨?_, ?_, ?_, by rw [e4]; exact h.kc, by rw [e1]; exact h.at_, by rw [e1, e3]; exact h.ks, ?_, by rw [e1, e3, e4]; exact h.wl, by rw [e1]; exact h.sep, by rw [e1]; exact h.sepl, h.gb, h.mbb, by rw [e1]; exact h.n2, by rw [e1]; exact h.nm⟩
  · rw [e1, ← hj]; exact blk_set h.hd j _
  · rw [e1, e2]; exact h.la.step (fun b hb _ => far b (by cases hb; exact h.lbg))
  · obtain ⟨es, ck, hb, r⟩ := h.mp
    exact ⟨es, ck, (far mb h.mbg).trans hb, r⟩
  · rw [e1, e3]; exact fun i hi => (h.rows i hi).step (fun b hb _ => far b (h.rowg hi hb).1)
end
end Go.Proofs.Ytddnhcnkjcdfgaa.M

namespace Go.Proofs.Ytddnhcnkjcdfgaa.M
open Go.RowKit Go.Maps Go.Proofs.YtddnhcnkjcdfgaaW.PrintWords Go.Proofs.YtddnhcnkjcdfgaaW.PrintLast Go.Proofs.YtddnhcnkjcdfgaaW.PrintMore
set_option linter.unusedVariables false
set_option linter.unusedSimpArgs false
theorem info5 : (Try.prog.info? 5).map (fun i => (i.zero, i.size, i.bytes)) = some (some (.int .u8 0), 1, 1) := by kernel_rfl
theorem empty_row {d : IntKind} (W : World) (e base : Nat) (hb : base ≤ W.heap.size) : Kd.R (Kd.int d) e (W.alloc (.cells #[] e)) base (fun _ => True) (.slice (some ⟨W.heap.size, 0, none⟩) 0 0) [] := by
  have h := World.ownsRow_lit (base := base) (e := e) (size := 1) W #[] 0 hb (by decide) (by simp)
  exact Kd.R_of_own (enc := Value.int d) (h1 := fun _ => rfl) (xs := []) (by simpa [encs] using h) (fun _ _ => trivial)
set_option maxHeartbeats 4000000 in
set_option maxRecDepth 100000 in
theorem clone_calls (ad : Addr) (n c : Nat) (xs : List Int) (w : World) (h : (Kd.int .u8).C w (some ad) n xs) (hl : n ≤ 1000000) :
    Calls Try.prog 44 #[.slice (some ad) n c] w fun e w' => ∃ v, e = .returned v ∧ Kd.R (Kd.int .u8) 5 w' w.heap.size (fun _ => True) v xs ∧ Below w.heap.size w w' := by
  have hq : ∀ W : World, (binOp .eql 28 (.slice (some ad) n c) (.slice none 0 0)).run Try.prog W = .ok (.bool false) W := fun W => Lib.run_eql_slice_nil W _ 5 (some ad) n c 0 0 Try.underlying28
  have HH := Aside0.mk h
  have HL := Aside0.mk hl
  clear h hl
  go_enter Try.func44, Try.ntmps44
  go_wp2_with ((with_reducible refine gate_builtin (b := .append) (xs := #[.tmp 5, .tmp 6]) rfl ?_); (try (refine gate_guard (by rfl) ?_; dsimp only)); at_builtin; refine Kd.R_append_rows (Kd.int .u8) (w0 := w) w.heap.size rfl (.tmp 5) (.tmp 6) 28 5 (.int .u8 0) 1 rfl Try.underlying28 info5 rfl (by decide) (by omega) (.slice (some ⟨w.heap.size, 0, none⟩) 0 0) ([] : List Int) xs (some ad) n c (fun _ => True) (fun _ => False) rfl rfl ?aO ?aR (fun _ _ h => h) (fun _ h => h.elim) ?aF ?aB ?aS ?aL ?_; (case aO => exact empty_row w 5 w.heap.size (Nat.le_refl _)); (case aR => exact Kd.C_below HH.out (below_alloc (Below.refl _ _) _)); (case aF => exact (fun k hk => trivial)); (case aB => exact below_alloc (Below.refl _ _) _); (case aS => simp); (case aL => (have := HL.out; simp; omega)); intro v9 w9 ho hb hg hat)
  go_ret
  exact ⟨v9, rfl, by simpa using ho, hb⟩
theorem info91 : (Try.prog.info? 91).map (fun i => (i.zero, i.size, i.bytes)) = some (some (.agg (Array.replicate 512 (.int .u8 0))), 512, 512) := by kernel_rfl
def zeros : List Int := List.replicate 512 0
theorem zeros_len : zeros.length = 512 := by unfold zeros; rw [List.length_replicate]
theorem zeros_nums : nums .u8 zeros = (Array.replicate 512 (Value.int .u8 0)).toList := by unfold zeros nums; rw [List.map_replicate, Array.toList_replicate]
def DS.fresh (n : Nat) (L : List (List Int)) : DS := ⟨n, L, fun _ => [], 0, 0, 0, 0⟩
set_option maxHeartbeats 4000000 in
set_option maxRecDepth 100000 in
theorem many_calls (n : Int) (w : World) : Calls Try.prog 43 #[.int .i64 n] w fun e w' => e = .returned (.bool (decide (2 ≤ n ∧ n ≤ 65536))) ∧ w' = w := by
  by_cases h : 2 ≤ n
  · have h1 : decide (2 ≤ n) = true := decide_eq_true h
    by_cases h2 : n ≤ 65536
    · have h3 : decide (n ≤ 65536) = true := decide_eq_true h2
      rw [show decide (2 ≤ n ∧ n ≤ 65536) = true from decide_eq_true ⟨h, h2⟩]
      clear h h2
      go_enter Try.func43, Try.ntmps43
      go_wp2
      go_ret
      exact ⟨rfl, rfl⟩
    · have h3 : decide (n ≤ 65536) = false := decide_eq_false h2
      rw [show decide (2 ≤ n ∧ n ≤ 65536) = false from decide_eq_false (fun h => h2 h.2)]
      clear h h2
      go_enter Try.func43, Try.ntmps43
      go_wp2
      go_ret
      exact ⟨rfl, rfl⟩
  · have h1 : decide (2 ≤ n) = false := decide_eq_false h
    rw [show decide (2 ≤ n ∧ n ≤ 65536) = false from decide_eq_false (fun h2 => h h2.1)]
    clear h
    go_enter Try.func43, Try.ntmps43
    go_wp2
    go_ret
    exact ⟨rfl, rfl⟩
set_option maxHeartbeats 4000000 in
set_option maxRecDepth 100000 in
theorem outside_calls (g : Nat) (i : Int) (n : Nat) (A : Option Addr) (c : Nat) (w : World) (hd : w.cell? ⟨g, 0, none⟩ = some (.slice A n c)) : Calls Try.prog 41 #[.pointer (some ⟨g, 0, none⟩), .int .i64 i] w fun e w' => e = .returned (.bool (!decide (0 ≤ i ∧ i < (n : Int)))) ∧ w' = w := by
  by_cases h : i < 0
  · have h1 : decide (i < 0) = true := decide_eq_true h
    rw [show (!decide (0 ≤ i ∧ i < (n : Int))) = true by simp; omega]
    clear h
    go_enter Try.func41, Try.ntmps41
    go_wp2
    go_ret
    exact ⟨rfl, rfl⟩
  · have h1 : decide (i < 0) = false := decide_eq_false h
    by_cases h2 : (n : Int) ≤ i
    · have h3 : decide ((n : Int) ≤ i) = true := decide_eq_true h2
      rw [show (!decide (0 ≤ i ∧ i < (n : Int))) = true by simp; omega]
      clear h h2
      go_enter Try.func41, Try.ntmps41
      go_wp2
      go_ret
      exact ⟨rfl, rfl⟩
    · have h3 : decide ((n : Int) ≤ i) = false := decide_eq_false h2
      rw [show (!decide (0 ≤ i ∧ i < (n : Int))) = false by simp; omega]
      clear h h2
      go_enter Try.func41, Try.ntmps41
      go_wp2
      go_ret
      exact ⟨rfl, rfl⟩
theorem fresh_at {w : World} {base lb cp n : Nat} {L : List (List Int)} (hr : Rs w base (.slice (some ⟨lb, 0, none⟩) n cp) L) (hb : base ≤ w.heap.size) (h2 : 2 ≤ n) (hm : n ≤ 65536) :
    ∃ F, DkAt ((w.alloc (.map #[] 0)).alloc (.cells #[.slice (some ⟨lb, 0, none⟩) n cp, .map (some w.heap.size), .int .i64 0, .int .i64 0, .int .i64 0] 89)) base (w.heap.size + 1) F (DS.fresh n L) := by
  have hs : (w.alloc (.map #[] 0)).heap.size = w.heap.size + 1 := by simp
  refine ⟨_, lb, cp, w.heap.size, fun _ => .slice none 0 0, 0, .map [], ⟨?_, ?_, ?_, Nat.le_refl _, fun i _ => rfl, fun kl h => by simp [Maps.has] at h, fun i _ => ⟨fun k hk => by simp [Value.ownBlock] at hk, OwnRow.none_ _ _ _ _ _⟩, fun i _ => Nat.le_refl _, fun i j b _ _ h => by simp [Value.ownBlock] at h, fun i _ => by simp [Value.ownBlock], by omega, hb, h2, hm⟩, fun b => Iff.rfl⟩
  · have := heap_alloc_new (w.alloc (.map #[] 0)) (.cells #[.slice (some ⟨lb, 0, none⟩) n cp, .map (some w.heap.size), .int .i64 0, .int .i64 0, .int .i64 0] 89)
    rw [hs] at this
    exact this
  · exact (hr.below (below_alloc (Below.refl _ _) _)).below (below_alloc (Below.refl _ _) _)
  · exact (World.ownsMap_made w _ _ _).alloc _
set_option maxHeartbeats 4000000 in
set_option maxRecDepth 100000 in
theorem new_calls (n : Nat) (w : World) (h2 : 2 ≤ n) (hm : n ≤ 65536) :
    Calls Try.prog 21 #[.int .i64 (n : Int)] w fun e w' => ∃ g F, e = .returned (.tuple #[.pointer (some ⟨g, 0, none⟩), .int .i64 0]) ∧ DkAt w' w.heap.size g F (DS.fresh n (List.replicate n zeros)) ∧ Below w.heap.size w w' := by
  have Hmany := Aside0.mk (fun (W : World) => (show Calls Try.prog 43 #[.int .i64 (n : Int)] W fun e w' => e = .returned (.bool true) ∧ w' = W from by
    have h_ := many_calls (n : Int) W
    rw [show decide (2 ≤ (n : Int) ∧ (n : Int) ≤ 65536) = true from decide_eq_true (by omega)] at h_
    exact h_))
  have H2 := Aside0.mk h2
  have HM := Aside0.mk hm
  have hmm := @run_makeMap Try.prog
  have hz := Aside0.mk zeros_nums
  clear h2 hm
  go_enter Try.func21, Try.ntmps21
  go_wp2_with (first
    | (go_at_call 43; (with_reducible refine (Hmany.out _).mono ?_); rintro e w1 ⟨rfl, hw_⟩; subst hw_)
    | (at_make; refine Kd.R_make sec (w0 := w1) w1.heap.size 91 rfl (N := 8) rfl 86 (.tmp 7) (.tmp 7) rfl (n : Int) rfl rfl Try.underlying86 (.agg (Array.replicate 512 (.int .u8 0))) 512 info91 (by simp [sec, Value.cells]) (by decide) (by decide) zeros (ok := fun _ => True) (okp := fun _ => True) ?mz (fun _ h => h) trivial (by omega) ?ml (Below.refl _ _) (Nat.le_refl _) ?_; (case mz => exact ⟨zeros_len, hz.out.symm⟩); (case ml => have := HM.out; omega); intro v8 w2 hr hb hg hat; obtain ⟨lb, cp, e8, _, _, _⟩ := Kd.R_form hr (by rw [List.length_replicate]; have := H2.out; omega); rw [List.length_replicate, Int.toNat_natCast] at e8; subst e8; rw [Int.toNat_natCast] at hr; have HR := Aside0.mk (Rs.of hr); have HB := Aside0.mk hb; clear hr hb hg hat))
  go_ret2
  obtain ⟨F, hF⟩ := fresh_at HR.out HB.out.size H2.out HM.out
  exact ⟨_, F, rfl, hF, below_alloc (below_alloc HB.out _) _⟩
end Go.Proofs.Ytddnhcnkjcdfgaa.M

namespace Go.Proofs.Ytddnhcnkjcdfgaa.M
open Go.RowKit Go.Maps Go.Proofs.YtddnhcnkjcdfgaaW.PrintWords Go.Proofs.YtddnhcnkjcdfgaaW.PrintLast Go.Proofs.YtddnhcnkjcdfgaaW.PrintMore
set_option linter.unusedVariables false
set_option linter.unusedSimpArgs false
def DS.put (s : DS) (i : Nat) (b : List Int) : DS := ⟨s.n, s.L, fun j => if j = i then s.W i ++ [b] else s.W j, s.c + 1, s.r, wrap64 (s.wr + 1), s.fl⟩
theorem spot_of_C {w : World} {ad : Addr} {n : Nat} {xs : List Int} (h : (Kd.int .u8).C w (some ad) n xs) (hn : 0 < n) : ad.spot = none := by
  obtain ⟨ad', e, hc⟩ := Kd.at_int h 0 (by omega) (by omega)
  cases e
  cases hs : ad.spot with
  | none => rfl
  | some q =>
    exfalso
    rw [show ad.add (0 : Int).toNat = ad from rfl] at hc
    unfold World.cell? at hc
    split at hc
    · simp [hs] at hc
    · cases hc
theorem rangeAt_of_C {w : World} {ad : Addr} {n : Nat} {xs : List Int} (h : (Kd.int .u8).C w (some ad) n xs) (hs : ad.spot = none) : w.rangeAt ad.block ad.off (nums .u8 xs) := by
  intro j v hv
  obtain ⟨hl, _, hc⟩ := h
  have hj : j < xs.length := by
    have := (List.getElem?_eq_some_iff.1 hv).1
    rwa [nums_length] at this
  obtain ⟨ad', e, hcell⟩ := hc (by omega)
  cases e
  obtain ⟨cs, hcl, hk, hcell⟩ := hcell j _ (List.getElem?_eq_getElem hj)
  have hk' : cs = [.int .u8 xs[j]] := hk
  have h1 := hcell 0 (.int .u8 xs[j]) (by rw [hk']; rfl)
  have hv' : v = .int .u8 xs[j] := by
    rw [nums, List.getElem?_map, List.getElem?_eq_getElem hj] at hv
    exact (Option.some.inj hv).symm
  rw [hv']
  rw [show j * (Kd.int .u8).sz + 0 = j from Nat.mul_one j] at h1
  rw [← h1]
  congr 1
  obtain ⟨b, o, sp⟩ := ad
  dsimp only at hs ⊢
  subst hs
  exact (Addr.add_mid b o j).symm
theorem sap (A : Option Addr) (c : Nat) (W : World) : (Instr.arrayAt 91 (.slice A 512 c)).run Try.prog W = .ok (.pointer A) W := by
  have h := run_underlying Try.underlying91 W
  simp [Instr.arrayAt, Sem.run_bind, h]
theorem key_int (i : Int) (h : -9223372036854775808 ≤ i ∧ i ≤ 9223372036854775807) : keyOf Try.prog 3 (.int .i64 i) = some (.int .i64 i) :=
  keyOf_int_mk Try.underlying3 (by simp [Lit.wf, IntKind.min, IntKind.max, IntKind.signed, IntKind.bits]; omega)
theorem keyed : Keyed Try.prog 3 := int_keyed Try.underlying3
theorem zero86 (W : World) : (zeroValue 86).run Try.prog W = .ok (.slice none 0 0) W := by kernel_rfl
section
variable {w w' : World} {base g lb cp mb k : Nat} {F G : Nat → Prop} {s : DS} {f : Nat → Value} {D : DataW Value}
theorem DkIn.look (h : DkIn w base g s lb cp mb f k D) (i : Nat) (hi : i < s.n) : (Instr.lookup 87 (.map (some mb)) (.int .i64 (i : Int)) false).run Try.prog w = .ok (f i) w := by
  have hm := h.nm
  obtain ⟨v, ps, hrun, hv⟩ := h.mp.lookup keyed Try.underlying87 (zero86 w) (zd := .held (.slice none 0 0)) (zp := []) rfl (key_int (i : Int) (by omega))
  have e := h.at_ i hi
  have hv' : (some (DataW.held v, ([] : List MemPlace))) = some (D.atKey (.int .i64 (i : Int)) (.held (.slice none 0 0)), ps) := hv
  rw [e] at hv'
  have : v = f i := by
    have h1 := congrArg Prod.fst (Option.some.inj hv')
    exact DataW.held.inj h1
  rw [← this]
  exact hrun
end
theorem fold_zip : ∀ (l : List Value) (k : Nat) (cs : List Value), k + l.length ≤ cs.length → (l.zipIdx k).foldl (fun (a : Array Value) (p : Value × Nat) => a.setIfInBounds (0 + p.2) p.1) cs.toArray = (cs.take k ++ l ++ cs.drop (k + l.length)).toArray
  | [], k, cs, h => by simp
  | x :: l, k, cs, h => by
    rw [List.length_cons] at h
    rw [List.zipIdx_cons, List.foldl_cons]
    simp only [Nat.zero_add, List.setIfInBounds_toArray]
    have h1 := fold_zip l (k + 1) (cs.set k x) (by rw [List.length_set]; omega)
    simp only [Nat.zero_add] at h1
    rw [h1]
    congr 1
    rw [List.take_set, List.drop_set_of_lt (by omega), List.take_succ_eq_append_getElem (by omega), List.length_cons]
    rw [List.set_append_right _ _ (by rw [List.length_take]; omega)]
    simp [Nat.min_eq_left (show k ≤ cs.length by omega), show k + 1 + l.length = k + (l.length + 1) by omega]
theorem run_bs (cells : Array Value) (h : cells.size = 512) (v : Value) (hv : v.cells = cells) (W : World) : (Instr.buildSlice 86 1 #[(0, v)]).run Try.prog W = .ok (.slice (some ⟨W.heap.size, 0, none⟩) 1 1) (W.alloc (.cells cells 91)) := by
  obtain ⟨i, hi, hz, hsz, hby⟩ := info_parts info91
  generalize Value.agg (Array.replicate 512 (.int .u8 0)) = zv at hz
  refine run_buildSlice W _ _ 1 _ cells i zv Try.underlying86 hi hz (by rw [hsz]; decide) (by rw [hsz]; decide) ?_
  have hl : ((Array.range (1 * i.size)).map (zv.cells[· % zv.cells.size]!)).size = 512 := by
    rw [Array.size_map, Array.size_range, hsz]
  generalize (Array.range (1 * i.size)).map (zv.cells[· % zv.cells.size]!) = z at hl
  have h1 := fold_zip cells.toList 0 z.toList (by rw [Array.length_toList, Array.length_toList, h, hl]; omega)
  rw [Array.toArray_toList] at h1
  have h2 : cells.zipIdx.foldl (fun cs (p : Value × Nat) => cs.setIfInBounds (0 + p.2) p.1) z = (cells.toList.zipIdx 0).foldl (fun cs (p : Value × Nat) => cs.setIfInBounds (0 + p.2) p.1) z := by
    rw [← Array.foldl_toList, Array.toList_zipIdx]
  rw [h1] at h2
  have h3 : (z.toList.take 0 ++ cells.toList ++ z.toList.drop (0 + cells.toList.length)).toArray = cells := by
    rw [List.drop_of_length_le (by rw [Array.length_toList, Array.length_toList, h, hl]; omega), List.append_nil, List.take_zero, List.nil_append, Array.toArray_toList]
  rw [h3] at h2
  have h4 : ((v.cells.size ≠ i.size) || decide (0 * i.size + v.cells.size > z.size)) = false := by rw [hv, h, hsz, hl]; decide
  show Instr.fill _ z [(0, v)] = some cells
  unfold Instr.fill
  simp only [h4, Bool.false_eq_true, if_false]
  unfold Instr.fill
  rw [hv, Nat.zero_mul]
  exact congrArg some h2
theorem wp_bs' {o : Oper} {x : Operand} {a : Act} {W : World} {K : Act → World → Prop} {Q : Exit → Act → World → Prop} (ho : o.op = .buildSlice 86 1 #[(0, x)]) (h : (a.eval x).cells.size = 512) :
    Oper.wp Try.prog o a W K Q = K (a.put o.dst (.slice (some ⟨W.heap.size, 0, none⟩) 1 1)) (W.alloc (.cells (a.eval x).cells 91)) := by
  have h1 := run_bs (a.eval x).cells h (a.eval x) rfl W
  unfold Oper.wp execOp
  simp only [ho, Sem.run_bind, List.map_toArray, List.map_cons, List.map_nil, h1, Result.andThen_ok]
  rfl
theorem wp_bs {d : Option Tmp} {x : Operand} {t : TypeId} {p : String} {af : Array Edge} {gd : Option (Nat × Bool)} {a : Act} {W : World} {K : Act → World → Prop} {Q : Exit → Act → World → Prop} (h : (a.eval x).cells.size = 512) :
    Oper.wp Try.prog ⟨d, .buildSlice 86 1 #[(0, x)], t, p, af, gd⟩ a W K Q = K (a.put d (.slice (some ⟨W.heap.size, 0, none⟩) 1 1)) (W.alloc (.cells (a.eval x).cells 91)) := wp_bs' rfl h
attribute [local go_sem ↓] Go.wp_at_zero Go.wp_at_succ wp_bs
end Go.Proofs.Ytddnhcnkjcdfgaa.M

namespace Go.Proofs.Ytddnhcnkjcdfgaa.M
open Go.RowKit Go.Maps Go.Proofs.YtddnhcnkjcdfgaaW.PrintWords Go.Proofs.YtddnhcnkjcdfgaaW.PrintLast Go.Proofs.YtddnhcnkjcdfgaaW.PrintMore
set_option linter.unusedVariables false
set_option linter.unusedSimpArgs false
attribute [local go_sem ↓] Go.wp_at_zero Go.wp_at_succ wp_bs
section
variable {w w2 w3 w4 : World} {base g lb cp mb k i : Nat} {s : DS} {f : Nat → Value} {D : DataW Value} {b : List Int} {v1 : Value}
theorem write_end (hi : i < s.n) (hx : Chg (Fp g lb mb f s.n) w w2) (h : DkIn w2.drew base g ⟨s.n, s.L, s.W, s.c, s.r, wrap64 (s.wr + 1), s.fl⟩ lb cp mb f k D)
    (ho : Kd.R sec 91 w3 base (fun x => (f i).ownBlock = some x ∨ w2.drew.heap.size ≤ x) v1 (s.W i ++ [b]) ∧ w2.drew.grownBy w3 (f i).ownBlock ∧ (v1.ownBlock = (f i).ownBlock ∨ ∃ q, v1.ownBlock = some q ∧ w2.drew.heap.size ≤ q) ∧ w4.ownsMap Try.prog 3 asIs mb (k + 1) (D.put (.int .i64 (i : Int)) (.held v1)) ∧ w3.grownBy w4 (some mb)) :
    ∃ F', DkAt w4 base g F' (s.put i b) ∧ (∀ x, F' x → Fp g lb mb f s.n x ∨ w.heap.size ≤ x) ∧ Chg (Fp g lb mb f s.n) w w4 := by
  obtain ⟨hr, hg, hat, hown, hgr⟩ := ho
  have hh : w2.drew.heap = w2.heap := rfl
  have hc3 : Chg (fun x => (f i).ownBlock = some x) w2.drew w3 := Chg.of_grown hg (fun x hx => hx)
  have hc4 : Chg (fun x => x = mb) w3 w4 := Chg.of_grown hgr (fun x hx => (Option.some.inj hx).symm)
  have hc : Chg (fun x => x = mb ∨ (f i).ownBlock = some x) w2.drew w4 := (hc3.mono (fun x hx => .inr hx)).trans hc4 (fun x hx => .inl (.inl hx))
  have hkey : WideAt.IsKeyLit (.int .i64 (i : Int)) := trivial
  have hf : ∀ j, j ≠ i → ∀ x, j < s.n → (f j).ownBlock = some x → v1.ownBlock = some x → False := by
    intro j hj x hjn hx hv
    rcases hat with e | ⟨q, e, hq⟩
    · rw [e] at hv
      exact hj (h.sep j i x hjn hi hx hv)
    · rw [e] at hv
      have := ((h.rows j hjn).typed hx).2.1
      cases hv
      omega
  refine ⟨Fp g lb mb (fun j => if j = i then v1 else f j) s.n, ⟨lb, cp, mb, fun j => if j = i then v1 else f j, k + 1, D.put (.int .i64 (i : Int)) (.held v1), ⟨?_, ?_, hown, Nat.succ_le_succ h.kc, ?_, ?_, ?_, ?_, ?_, ?_, h.gb, h.mbb, h.n2, h.nm⟩, fun x => Iff.rfl⟩, ?_, ?_⟩
  · exact (hc.block g (blk_lt h.hd) (fun e => by rcases e with e | e; exact h.mbg e.symm; exact (h.rowg hi e).1 rfl)).trans h.hd
  · exact h.la.chg hc (fun x hx e => by cases hx; rcases e with e | e; exact h.mbl e.symm; exact (h.rowg hi e).2.2 rfl)
  · intro j hj
    by_cases e : j = i
    · subst e
      rw [if_pos rfl]
      exact atKey_put_same (h.mp.isMap) hkey _ _
    · rw [if_neg e]
      exact (atKey_put_other (fun e2 => e (by injection e2 with _ e2; omega)) _ _).trans (h.at_ j hj)
  · intro kl hkl
    by_cases e : kl = .int .i64 (i : Int)
    · exact ⟨i, hi, e, by show (if i = i then s.W i ++ [b] else s.W i) ≠ []; rw [if_pos rfl]; simp⟩
    · rw [has_put_other e] at hkl
      obtain ⟨j, hj, e1, e2⟩ := h.ks kl hkl
      refine ⟨j, hj, e1, ?_⟩
      show (if j = i then s.W i ++ [b] else s.W j) ≠ []
      by_cases e3 : j = i
      · rw [if_pos e3]; simp
      · rw [if_neg e3]; exact e2
  · intro j hj
    show Rs w4 base (if j = i then v1 else f j) (if j = i then s.W i ++ [b] else s.W j)
    by_cases e : j = i
    · rw [if_pos e, if_pos e]
      refine (Rs.of hr).chg hc4 (fun x hx e2 => ?_)
      have e2 : x = mb := e2
      obtain ⟨cs, hcs⟩ := (Rs.typed (Rs.of hr) hx).2.2
      rw [e2] at hcs
      obtain ⟨es, ck, hm, _⟩ := h.mp.kept hg (fun e => (h.rowg hi e.symm).2.1 rfl)
      rw [hcs] at hm
      cases hm
    · rw [if_neg e, if_neg e]
      refine (h.rows j hj).chg hc (fun x hx e2 => ?_)
      rcases e2 with e2 | e2
      · exact (h.rowg hj hx).2.1 e2
      · exact e (h.sep j i x hj hi hx e2)
  · intro j hj
    show (if j = i then s.W i ++ [b] else s.W j).length ≤ s.c + 1
    by_cases e : j = i
    · rw [if_pos e, List.length_append]
      have : (s.W i).length ≤ s.c := h.wl i hi
      simp
      omega
    · rw [if_neg e]
      have : (s.W j).length ≤ s.c := h.wl j hj
      omega
  · intro j q x hj hq h1 h2
    have h1 : (if j = i then v1 else f j).ownBlock = some x := h1
    have h2 : (if q = i then v1 else f q).ownBlock = some x := h2
    by_cases e : j = i
    · by_cases e2 : q = i
      · omega
      · rw [if_pos e] at h1
        rw [if_neg e2] at h2
        exact (hf q e2 x hq h2 h1).elim
    · rw [if_neg e] at h1
      by_cases e2 : q = i
      · rw [if_pos e2] at h2
        exact (hf j e x hj h1 h2).elim
      · rw [if_neg e2] at h2
        exact h.sep j q x hj hq h1 h2
  · intro j hj e
    have e : (if j = i then v1 else f j).ownBlock = some lb := e
    by_cases e1 : j = i
    · rw [if_pos e1] at e
      rcases hat with e2 | ⟨q, e2, hq⟩
      · rw [e2] at e
        exact h.sepl i hi e
      · rw [e2] at e
        have h5 := (h.la.typed rfl).2.1
        have h6 : q = lb := Option.some.inj e
        rw [h6] at hq
        exact absurd hq (Nat.not_le.2 h5)
    · rw [if_neg e1] at e
      exact h.sepl j hj e
  · intro x hx2
    rcases hx2 with e | e | e | ⟨j, hj, e⟩
    · exact .inl (.inl e)
    · exact .inl (.inr (.inl e))
    · exact .inl (.inr (.inr (.inl e)))
    · have e : (if j = i then v1 else f j).ownBlock = some x := e
      by_cases e1 : j = i
      · rw [if_pos e1] at e
        rcases hat with e2 | ⟨q, e2, hq⟩
        · rw [e2] at e
          exact .inl (.inr (.inr (.inr ⟨i, hi, e⟩)))
        · rw [e2] at e
          cases e
          right
          have := hx.size
          rw [hh] at hq
          omega
      · rw [if_neg e1] at e
        exact .inl (.inr (.inr (.inr ⟨j, hj, e⟩)))
  · refine (hx.trans (Chg.of_below (below_drew1 (Below.refl _ _)) : Chg (Fp g lb mb f s.n) w2 w2.drew) (fun x hx => .inl hx)).trans (hc.mono (fun x e => ?_)) (fun x e => .inl e)
    rcases e with e | e
    · exact .inr (.inr (.inl e))
    · exact .inr (.inr (.inr ⟨i, hi, e⟩))
end
set_option maxHeartbeats 1000000 in
set_option maxRecDepth 100000 in
theorem write_in (g i : Nat) (A : Option Addr) (c : Nat) (b : List Int) (w : World) (base lb cp mb k : Nat) (f : Nat → Value) (D : DataW Value) (s : DS) (h : DkIn w base g s lb cp mb f k D) (hi : i < s.n) (hC : (Kd.int .u8).C w A 512 b) (hne : ∀ ad, A = some ad → ¬ Fp g lb mb f s.n ad.block) (hc : s.c < 1073741824) :
    Calls Try.prog 16 #[.pointer (some ⟨g, 0, none⟩), .int .i64 (i : Int), .slice A 512 c] w fun e w' => e = .returned (.int .i64 0) ∧ ∃ F', DkAt w' base g F' (s.put i b) ∧ (∀ b, F' b → Fp g lb mb f s.n b ∨ w.heap.size ≤ b) ∧ Chg (Fp g lb mb f s.n) w w' := by
  obtain ⟨ad, rfl, _⟩ := Kd.at_int hC 0 (by omega) (by omega)
  have hspot := spot_of_C hC (by omega)
  obtain ⟨ab, ao, asp⟩ := ad
  obtain rfl : asp = none := hspot
  have hrange := rangeAt_of_C hC rfl
  have hblen : b.length = 512 := hC.1
  have hag : ab ≠ g := fun e => hne _ rfl (.inl e)
  have hn2 := h.n2
  have hnm := h.nm
  have hg0 : w.cell? ⟨g, 0, none⟩ = some (.slice (some ⟨lb, 0, none⟩) s.n cp) := blk_cell h.hd 0
  have hg3 : w.cell? ⟨g, 3, none⟩ = some (.int .i64 s.wr) := blk_cell h.hd 3
  have hgf : w.frozen? ⟨g, 3, none⟩ = false := blk_frozen h.hd 3
  have Hout := Aside0.mk (show Calls Try.prog 41 #[.pointer (some ⟨g, 0, none⟩), .int .i64 (i : Int)] w fun e w' => e = .returned (.bool false) ∧ w' = w from by
    have h_ := outside_calls g (i : Int) s.n (some ⟨lb, 0, none⟩) cp w hg0
    rw [show (!decide (0 ≤ (i : Int) ∧ (i : Int) < (s.n : Int))) = false by simp; omega] at h_
    exact h_)
  have H1 := Aside0.mk (h.acts 3 (wrap64 (s.wr + 1)) ⟨s.n, s.L, s.W, s.c, s.r, wrap64 (s.wr + 1), s.fl⟩ ⟨rfl, rfl, rfl, rfl⟩ rfl)
  have HR := Aside0.mk (show (w.setCell ⟨g, 3, none⟩ (.int .i64 (wrap64 (s.wr + 1)))).rangeAt ab ao (nums .u8 b) from fun j v hv => (World.cell?_setCell_far w ⟨g, 3, none⟩ ⟨ab, ao + j, none⟩ _ (fun e => hag e.symm)).trans (hrange j v hv))
  have HNE := Aside0.mk (hne _ rfl)
  have hsap := sap (some ⟨ab, ao, none⟩) c
  have HI := Aside0.mk hi
  have HC := Aside0.mk hc
  have HBL := Aside0.mk hblen
  have HX := Aside0.mk (Chg.setCell (F := Fp g lb mb f s.n) (Chg.refl _ w) (.inl rfl) 3 (.int .i64 (wrap64 (s.wr + 1))))
  have hi0 : (0 : Int) ≤ (i : Int) := by omega
  clear hrange hblen hi hc h hC hne hag
  go_enter Try.func16, Try.ntmps16
  go_wp2_with (go_at_call 41; (with_reducible refine Hout.out.mono ?_); rintro e w1 ⟨rfl, hw_⟩; subst hw_)
  have hg1 : ∀ W, DkIn W base g ⟨s.n, s.L, s.W, s.c, s.r, wrap64 (s.wr + 1), s.fl⟩ lb cp mb f k D → W.cell? ⟨g, 1, none⟩ = some (.map (some mb)) := fun W h => blk_cell h.hd 1
  have HG1 := Aside0.mk hg1
  clear hg1 Hout hg0 hg3 hgf
  generalize w1.setCell ⟨g, 3, none⟩ (.int .i64 (wrap64 (s.wr + 1))) = w2 at H1 HR HX ⊢
  have HS := Aside0.mk (fun (W : World) (hb : Chg (fun x => x = mb ∨ (f i).ownBlock = some x) w2 W) => (show W.cell? ⟨g, 1, none⟩ = some (.map (some mb)) ∧ W.rangeAt ab ao (nums .u8 b) from
    ⟨(blk_cell ((hb.block g (blk_lt H1.out.hd) (fun e => by rcases e with e | e; exact H1.out.mbg e.symm; exact (H1.out.rowg HI.out e).1 rfl)).trans H1.out.hd) 1).trans rfl, fun j v hv => by
      have h1 := HR.out j v hv
      have h2 := hb.block ab (World.block_lt_of_cell? w2 _ h1) (fun e => HNE.out (by rcases e with e | e; exact .inr (.inr (.inl e)); exact .inr (.inr (.inr ⟨i, HI.out, e⟩))))
      rw [← h1]
      unfold World.cell?
      rw [h2]⟩))
  have hlb : (nums .u8 b).length = 512 := by rw [nums_length, HBL.out]
  have hnb : ∀ v ∈ nums .u8 b, v.oneCell' = true := fun v hv => by obtain ⟨y, _, rfl⟩ := List.mem_map.1 hv; rfl
  have hu91 := Try.underlying91
  have hi91 : (Try.prog.info? 91).map (·.size) = some (nums .u8 b).length := by rw [hlb]; kernel_rfl
  generalize hcb : nums .u8 b = cb at *
  have HCB := Aside0.mk hcb
  clear hcb
  have HD := Aside0.mk (H1.out.chg (G := fun _ => False) (Chg.of_below (below_drew1 (Below.refl _ _))) (fun _ _ => id))
  have hlk := HD.out.look i HI.out
  have hlk2 : (Instr.lookup 87 (.map (some mb)) (.int .i64 (i : Int)) false).run Try.prog (w2.alloc (.cells cb.toArray 91)).drew = .ok (f i) (w2.alloc (.cells cb.toArray 91)).drew := (HD.out.chg (w' := (w2.alloc (.cells cb.toArray 91)).drew) (G := fun _ => False) (Chg.of_below (below_alloc (w := w2.drew) (Below.refl _ _) (.cells cb.toArray 91))) (fun _ _ => id)).look i HI.out
  have HSD := Aside0.mk (HS.out w2.drew (Chg.of_below (below_drew1 (Below.refl _ _))))
  have HSA := Aside0.mk (HS.out (w2.drew.alloc (.cells cb.toArray 91)) (Chg.of_below (below_alloc (below_drew1 (Below.refl _ _)) _)))
  have HSC := Aside0.mk (show sec.M w2.drew base (fun _ => False) b cb from ⟨HBL.out, HCB.out.symm⟩)
  refine wp_region_noPanic ?_
  refine wp_region_held_drew (S := (fun W => W.cell? ⟨g, 1, none⟩ = some (.map (some mb)) ∧ W.rangeAt ab ao cb)) (by kernel_rfl) HSD.out (fun hHeld => ?_)
  refine wpAnyH_take (i := 0) (oi := { dst := some 24, op := Go.Op.move (Go.Operand.tmp 0), type := 23, pos := "disk.go:73", after := #[], guard := none }) (v := ?_) rfl (by kernel_rfl) (by kernel_rfl) (by kernel_rfl) (fun _ _ _ h => h) (Or.inl ⟨by rfl, ?_⟩) (by assumption) ?_
  rotate_left
  · intro W hSw; (try dsimp only at hSw); go_simp; first | done | with_reducible rfl
  (try simp only [Act.put, List.setIfInBounds_toArray, List.set_cons_zero, List.set_cons_succ])
  refine wpAnyH_take (i := 1) (oi := { dst := some 25, op := Go.Op.nilCheck (Go.Operand.tmp 24), type := 0, pos := "disk.go:73", after := #[{ on := 0, ground := Go.Ground.data }], guard := none }) (v := ?_) rfl (by kernel_rfl) (by kernel_rfl) (by kernel_rfl) (fun _ _ _ h => h) (Or.inl ⟨by rfl, ?_⟩) (by assumption) ?_
  rotate_left
  · intro W hSw; (try dsimp only at hSw); go_simp; first | done | with_reducible rfl
  (try simp only [Act.put, List.setIfInBounds_toArray, List.set_cons_zero, List.set_cons_succ])
  refine wpAnyH_take (i := 2) (oi := { dst := some 26, op := Go.Op.fieldAddr 89 (Go.Operand.tmp 25) 1, type := 0, pos := "disk.go:73", after := #[{ on := 1, ground := Go.Ground.data }], guard := none }) (v := ?_) rfl (by kernel_rfl) (by kernel_rfl) (by kernel_rfl) (fun _ _ _ h => h) (Or.inl ⟨by rfl, ?_⟩) (by assumption) ?_
  rotate_left
  · intro W hSw; (try dsimp only at hSw); go_simp; first | done | with_reducible rfl
  (try simp only [Act.put, List.setIfInBounds_toArray, List.set_cons_zero, List.set_cons_succ])
  refine wpAnyH_take (i := 3) (oi := { dst := some 27, op := Go.Op.load 87 (Go.Operand.tmp 26), type := 87, pos := "disk.go:73", after := #[{ on := 2, ground := Go.Ground.data }], guard := none }) (v := ?_) rfl (by kernel_rfl) (by kernel_rfl) (by kernel_rfl) (fun _ _ _ h => h) (Or.inl ⟨by rfl, ?_⟩) (by assumption) ?_
  rotate_left
  · intro W hSw; (try dsimp only at hSw); go_simp; first | done | with_reducible rfl
  (try simp only [Act.put, List.setIfInBounds_toArray, List.set_cons_zero, List.set_cons_succ])
  refine wpAnyH_take (i := 4) (oi := { dst := some 28, op := Go.Op.move (Go.Operand.tmp 1), type := 3, pos := "disk.go:73", after := #[], guard := none }) (v := ?_) rfl (by kernel_rfl) (by kernel_rfl) (by kernel_rfl) (fun _ _ _ h => h) (Or.inl ⟨by rfl, ?_⟩) (by assumption) ?_
  rotate_left
  · intro W hSw; (try dsimp only at hSw); go_simp; first | done | with_reducible rfl
  (try simp only [Act.put, List.setIfInBounds_toArray, List.set_cons_zero, List.set_cons_succ])
  refine wpAnyH_take (i := 5) (oi := { dst := some 29, op := Go.Op.move (Go.Operand.tmp 0), type := 23, pos := "disk.go:73", after := #[], guard := none }) (v := ?_) rfl (by kernel_rfl) (by kernel_rfl) (by kernel_rfl) (fun _ _ _ h => h) (Or.inl ⟨by rfl, ?_⟩) (by assumption) ?_
  rotate_left
  · intro W hSw; (try dsimp only at hSw); go_simp; first | done | with_reducible rfl
  (try simp only [Act.put, List.setIfInBounds_toArray, List.set_cons_zero, List.set_cons_succ])
  refine wpAnyH_take (i := 6) (oi := { dst := some 30, op := Go.Op.nilCheck (Go.Operand.tmp 29), type := 0, pos := "disk.go:73", after := #[{ on := 5, ground := Go.Ground.data }], guard := none }) (v := ?_) rfl (by kernel_rfl) (by kernel_rfl) (by kernel_rfl) (fun _ _ _ h => h) (Or.inl ⟨by rfl, ?_⟩) (by assumption) ?_
  rotate_left
  · intro W hSw; (try dsimp only at hSw); go_simp; first | done | with_reducible rfl
  (try simp only [Act.put, List.setIfInBounds_toArray, List.set_cons_zero, List.set_cons_succ])
  refine wpAnyH_take (i := 7) (oi := { dst := some 31, op := Go.Op.fieldAddr 89 (Go.Operand.tmp 30) 1, type := 0, pos := "disk.go:73", after := #[{ on := 6, ground := Go.Ground.data }], guard := none }) (v := ?_) rfl (by kernel_rfl) (by kernel_rfl) (by kernel_rfl) (fun _ _ _ h => h) (Or.inl ⟨by rfl, ?_⟩) (by assumption) ?_
  rotate_left
  · intro W hSw; (try dsimp only at hSw); go_simp; first | done | with_reducible rfl
  (try simp only [Act.put, List.setIfInBounds_toArray, List.set_cons_zero, List.set_cons_succ])
  refine wpAnyH_take (i := 8) (oi := { dst := some 32, op := Go.Op.load 87 (Go.Operand.tmp 31), type := 87, pos := "disk.go:73", after := #[{ on := 7, ground := Go.Ground.data }], guard := none }) (v := ?_) rfl (by kernel_rfl) (by kernel_rfl) (by kernel_rfl) (fun _ _ _ h => h) (Or.inl ⟨by rfl, ?_⟩) (by assumption) ?_
  rotate_left
  · intro W hSw; (try dsimp only at hSw); go_simp; first | done | with_reducible rfl
  (try simp only [Act.put, List.setIfInBounds_toArray, List.set_cons_zero, List.set_cons_succ])
  refine wpAnyH_take (i := 9) (oi := { dst := some 33, op := Go.Op.move (Go.Operand.tmp 1), type := 3, pos := "disk.go:73", after := #[], guard := none }) (v := ?_) rfl (by kernel_rfl) (by kernel_rfl) (by kernel_rfl) (fun _ _ _ h => h) (Or.inl ⟨by rfl, ?_⟩) (by assumption) ?_
  rotate_left
  · intro W hSw; (try dsimp only at hSw); go_simp; first | done | with_reducible rfl
  (try simp only [Act.put, List.setIfInBounds_toArray, List.set_cons_zero, List.set_cons_succ])
  refine wpAnyH_take (i := 11) (oi := { dst := some 35, op := Go.Op.move (Go.Operand.tmp 2), type := 28, pos := "disk.go:73", after := #[], guard := none }) (v := ?_) rfl (by kernel_rfl) (by kernel_rfl) (by kernel_rfl) (fun _ _ _ h => h) (Or.inl ⟨by rfl, ?_⟩) (by assumption) ?_
  rotate_left
  · intro W hSw; (try dsimp only at hSw); go_simp; first | done | with_reducible rfl
  (try simp only [Act.put, List.setIfInBounds_toArray, List.set_cons_zero, List.set_cons_succ])
  refine wpAnyH_take (i := 12) (oi := { dst := some 36, op := Go.Op.sliceToArrayPointer 91 (Go.Operand.tmp 35), type := 0, pos := "disk.go:73", after := #[{ on := 11, ground := Go.Ground.data }], guard := none }) (v := ?_) rfl (by kernel_rfl) (by kernel_rfl) (by kernel_rfl) (fun _ _ _ h => h) (Or.inl ⟨by rfl, ?_⟩) (by assumption) ?_
  rotate_left
  · intro W hSw; (try dsimp only at hSw); go_simp; first | done | with_reducible rfl
  (try simp only [Act.put, List.setIfInBounds_toArray, List.set_cons_zero, List.set_cons_succ])
  refine wpAnyH_take (i := 13) (oi := { dst := some 37, op := Go.Op.load 91 (Go.Operand.tmp 36), type := 91, pos := "disk.go:73", after := #[{ on := 12, ground := Go.Ground.data }], guard := none }) (v := .agg cb.toArray) rfl (by kernel_rfl) (by kernel_rfl) (by kernel_rfl) (fun _ _ _ h => h) (yieldsIf_load_mid (by rfl) 91 (.tmp 36) rfl ab ao rfl cb _ (fun W hSw => hSw.2) hu91 rfl hi91) (by assumption) ?_
  (try simp only [Act.put, List.setIfInBounds_toArray, List.set_cons_zero, List.set_cons_succ])
  refine wpAnyH_ready (rs := [10, 14]) (by kernel_rfl) (by simp) ?_
  refine AllReadyH.cons (o := { dst := some 34, op := Go.Op.lookup 87 (Go.Operand.tmp 32) (Go.Operand.tmp 33) false, type := 86, pos := "disk.go:73", after := #[{ on := 8, ground := Go.Ground.data }, { on := 9, ground := Go.Ground.data }], guard := none }) rfl (fun K hK => ?_) ?_
  · go_simp
    refine hK.out _ _ HSD.out (fun hHeld => ?_)
    clear hK K
    (try simp only [Act.put, List.setIfInBounds_toArray, List.set_cons_zero, List.set_cons_succ])
    refine wpAnyH_ready (rs := [14]) (by kernel_rfl) (by simp) ?_
    refine AllReadyH.cons (o := { dst := some 38, op := Go.Op.buildSlice 86 1 #[(0, Go.Operand.tmp 37)], type := 86, pos := "disk.go:73", after := #[{ on := 13, ground := Go.Ground.data }], guard := none }) rfl (fun K hK => ?_) AllReadyH.nil
    go_simp
    refine hK.out _ (w2.alloc (.cells cb.toArray 91)).drew HSA.out (fun hHeld => ?_)
    clear hK K
    (try simp only [Act.put, List.setIfInBounds_toArray, List.set_cons_zero, List.set_cons_succ])
    refine wpAnyH_ready (rs := [15]) (by kernel_rfl) (by simp) ?_
    refine AllReadyH.cons (o := { dst := some 39, op := Go.Op.call { callee := Go.Callee.builtin Go.Builtin.append, args := #[Go.Operand.tmp 34, Go.Operand.tmp 38], argTypes := #[86, 86] }, type := 86, pos := "disk.go:73", after := #[{ on := 10, ground := Go.Ground.data }, { on := 14, ground := Go.Ground.data }], guard := none }) rfl (fun K hK => ?_) AllReadyH.nil
    (refine Kd.R_append_step sec (w0 := w2.drew) (W := w2.drew) base (by rfl) (.tmp 34) (.tmp 38) 86 91 (.agg (Array.replicate 512 (.int .u8 0))) 512 (by rfl) Try.underlying86 info91 (by simp [sec, Value.cells]) (by decide) (by decide) (f i) (s.W i) b cb (fun x => (f i).ownBlock = some x ∨ w2.drew.heap.size ≤ x) (fun _ => False) (by rfl) (by rfl) HSC.out (fun _ h => h.elim) (fun _ h => .inr h) (Kd.R_mono (HD.out.rows i HI.out) (fun _ h => .inl h)) (Below.refl _ _) (by have := HD.out.gb; have := blk_lt HD.out.hd; omega) (by have h3 : (s.W i).length ≤ s.c := HD.out.wl i HI.out; have := HC.out; omega) ?_)
    intro v1 w3 ho hb hg hat
    obtain ⟨w4, hrun, hown, hgr⟩ := (HD.out.mp.kept hg (fun e => (HD.out.rowg HI.out e.symm).2.1 rfl)).update keyed Try.underlying87 (by have := HD.out.kc; have h2 : k ≤ s.c := this; have := HC.out; unfold maxLen; omega) (key_int (i : Int) (by have := HI.out; omega)) (show asIs v1 = some (.held v1, []) from rfl)
    have HO := Aside0.mk (And.intro ho (And.intro hg (And.intro hat (And.intro hown hgr))))
    have HSB := Aside0.mk (HS.out w3 ((Chg.of_below (below_drew1 (Below.refl _ _))).trans (Chg.of_grown hg (fun k hk => .inr hk)) (fun _ h => .inl h)))
    have HSE := Aside0.mk (HS.out w4 (((Chg.of_below (below_drew1 (Below.refl _ _))).trans (Chg.of_grown hg (fun k hk => .inr hk)) (fun _ h => .inl h)).trans (Chg.of_grown hgr (fun k hk => .inl (Option.some.inj hk).symm)) (fun _ h => .inl h)))
    clear ho hb hg hat hown hgr
    refine hK.out _ _ HSB.out (fun hHeld => ?_)
    clear hK K
    (try simp only [Act.put, List.setIfInBounds_toArray, List.set_cons_zero, List.set_cons_succ])
    refine wpAnyH_ready (rs := [16]) (by kernel_rfl) (by simp) ?_
    refine AllReadyH.cons (o := { dst := none, op := Go.Op.mapUpdate 87 (Go.Operand.tmp 27) (Go.Operand.tmp 28) (Go.Operand.tmp 39), type := 0, pos := "disk.go:73", after := #[{ on := 3, ground := Go.Ground.data }, { on := 4, ground := Go.Ground.data }, { on := 15, ground := Go.Ground.data }, { on := 15, ground := Go.Ground.chain }, { on := 0, ground := Go.Ground.phase }, { on := 1, ground := Go.Ground.phase }, { on := 2, ground := Go.Ground.phase }, { on := 3, ground := Go.Ground.phase }, { on := 4, ground := Go.Ground.phase }, { on := 5, ground := Go.Ground.phase }, { on := 6, ground := Go.Ground.phase }, { on := 7, ground := Go.Ground.phase }, { on := 8, ground := Go.Ground.phase }, { on := 9, ground := Go.Ground.phase }, { on := 10, ground := Go.Ground.phase }, { on := 11, ground := Go.Ground.phase }, { on := 12, ground := Go.Ground.phase }, { on := 13, ground := Go.Ground.phase }, { on := 14, ground := Go.Ground.phase }, { on := 15, ground := Go.Ground.phase }], guard := none }) rfl (fun K hK => ?_) AllReadyH.nil
    go_simp
    refine hK.out _ _ HSE.out (fun hHeld => ?_)
    clear hK K
    (try simp only [Act.put, List.setIfInBounds_toArray, List.set_cons_zero, List.set_cons_succ])
    refine wpAnyH_done (by kernel_rfl) ?_ _
    refine NoPanic.normal ?_
    go_wp2
    go_ret
    exact ⟨rfl, write_end HI.out HX.out HD.out HO.out⟩
  refine AllReadyH.cons (o := { dst := some 38, op := Go.Op.buildSlice 86 1 #[(0, Go.Operand.tmp 37)], type := 86, pos := "disk.go:73", after := #[{ on := 13, ground := Go.Ground.data }], guard := none }) rfl (fun K hK => ?_) AllReadyH.nil
  go_simp
  refine hK.out _ (w2.alloc (.cells cb.toArray 91)).drew HSA.out (fun hHeld => ?_)
  clear hK K
  (try simp only [Act.put, List.setIfInBounds_toArray, List.set_cons_zero, List.set_cons_succ])
  refine wpAnyH_ready (rs := [10]) (by kernel_rfl) (by simp) ?_
  refine AllReadyH.cons (o := { dst := some 34, op := Go.Op.lookup 87 (Go.Operand.tmp 32) (Go.Operand.tmp 33) false, type := 86, pos := "disk.go:73", after := #[{ on := 8, ground := Go.Ground.data }, { on := 9, ground := Go.Ground.data }], guard := none }) rfl (fun K hK => ?_) AllReadyH.nil
  go_simp
  refine hK.out _ (w2.alloc (.cells cb.toArray 91)).drew HSA.out (fun hHeld => ?_)
  clear hK K
  (try simp only [Act.put, List.setIfInBounds_toArray, List.set_cons_zero, List.set_cons_succ])
  refine wpAnyH_ready (rs := [15]) (by kernel_rfl) (by simp) ?_
  refine AllReadyH.cons (o := { dst := some 39, op := Go.Op.call { callee := Go.Callee.builtin Go.Builtin.append, args := #[Go.Operand.tmp 34, Go.Operand.tmp 38], argTypes := #[86, 86] }, type := 86, pos := "disk.go:73", after := #[{ on := 10, ground := Go.Ground.data }, { on := 14, ground := Go.Ground.data }], guard := none }) rfl (fun K hK => ?_) AllReadyH.nil
  (refine Kd.R_append_step sec (w0 := w2.drew) (W := w2.drew) base (by rfl) (.tmp 34) (.tmp 38) 86 91 (.agg (Array.replicate 512 (.int .u8 0))) 512 (by rfl) Try.underlying86 info91 (by simp [sec, Value.cells]) (by decide) (by decide) (f i) (s.W i) b cb (fun x => (f i).ownBlock = some x ∨ w2.drew.heap.size ≤ x) (fun _ => False) (by rfl) (by rfl) HSC.out (fun _ h => h.elim) (fun _ h => .inr h) (Kd.R_mono (HD.out.rows i HI.out) (fun _ h => .inl h)) (Below.refl _ _) (by have := HD.out.gb; have := blk_lt HD.out.hd; omega) (by have h3 : (s.W i).length ≤ s.c := HD.out.wl i HI.out; have := HC.out; omega) ?_)
  intro v1 w3 ho hb hg hat
  obtain ⟨w4, hrun, hown, hgr⟩ := (HD.out.mp.kept hg (fun e => (HD.out.rowg HI.out e.symm).2.1 rfl)).update keyed Try.underlying87 (by have := HD.out.kc; have h2 : k ≤ s.c := this; have := HC.out; unfold maxLen; omega) (key_int (i : Int) (by have := HI.out; omega)) (show asIs v1 = some (.held v1, []) from rfl)
  have HO := Aside0.mk (And.intro ho (And.intro hg (And.intro hat (And.intro hown hgr))))
  have HSB := Aside0.mk (HS.out w3 ((Chg.of_below (below_drew1 (Below.refl _ _))).trans (Chg.of_grown hg (fun k hk => .inr hk)) (fun _ h => .inl h)))
  have HSE := Aside0.mk (HS.out w4 (((Chg.of_below (below_drew1 (Below.refl _ _))).trans (Chg.of_grown hg (fun k hk => .inr hk)) (fun _ h => .inl h)).trans (Chg.of_grown hgr (fun k hk => .inl (Option.some.inj hk).symm)) (fun _ h => .inl h)))
  clear ho hb hg hat hown hgr
  refine hK.out _ _ HSB.out (fun hHeld => ?_)
  clear hK K
  (try simp only [Act.put, List.setIfInBounds_toArray, List.set_cons_zero, List.set_cons_succ])
  refine wpAnyH_ready (rs := [16]) (by kernel_rfl) (by simp) ?_
  refine AllReadyH.cons (o := { dst := none, op := Go.Op.mapUpdate 87 (Go.Operand.tmp 27) (Go.Operand.tmp 28) (Go.Operand.tmp 39), type := 0, pos := "disk.go:73", after := #[{ on := 3, ground := Go.Ground.data }, { on := 4, ground := Go.Ground.data }, { on := 15, ground := Go.Ground.data }, { on := 15, ground := Go.Ground.chain }, { on := 0, ground := Go.Ground.phase }, { on := 1, ground := Go.Ground.phase }, { on := 2, ground := Go.Ground.phase }, { on := 3, ground := Go.Ground.phase }, { on := 4, ground := Go.Ground.phase }, { on := 5, ground := Go.Ground.phase }, { on := 6, ground := Go.Ground.phase }, { on := 7, ground := Go.Ground.phase }, { on := 8, ground := Go.Ground.phase }, { on := 9, ground := Go.Ground.phase }, { on := 10, ground := Go.Ground.phase }, { on := 11, ground := Go.Ground.phase }, { on := 12, ground := Go.Ground.phase }, { on := 13, ground := Go.Ground.phase }, { on := 14, ground := Go.Ground.phase }, { on := 15, ground := Go.Ground.phase }], guard := none }) rfl (fun K hK => ?_) AllReadyH.nil
  go_simp
  refine hK.out _ _ HSE.out (fun hHeld => ?_)
  clear hK K
  (try simp only [Act.put, List.setIfInBounds_toArray, List.set_cons_zero, List.set_cons_succ])
  refine wpAnyH_done (by kernel_rfl) ?_ _
  refine NoPanic.normal ?_
  go_wp2
  go_ret
  exact ⟨rfl, write_end HI.out HX.out HD.out HO.out⟩
end Go.Proofs.Ytddnhcnkjcdfgaa.M

namespace Go.Proofs.Ytddnhcnkjcdfgaa.M
open Go.RowKit Go.Maps Go.Proofs.YtddnhcnkjcdfgaaW.PrintWords Go.Proofs.YtddnhcnkjcdfgaaW.PrintLast Go.Proofs.YtddnhcnkjcdfgaaW.PrintMore
set_option linter.unusedVariables false
set_option linter.unusedSimpArgs false
def zA : Array Value := (nums .u8 zeros).toArray
theorem zA_size : zA.size = 512 := by unfold zA; rw [List.size_toArray, nums_length, zeros_len]
theorem size91 : (Try.prog.info? 91).map (·.size) = some 512 := by kernel_rfl
theorem zero91 (W : World) : (zeroValue 91).run Try.prog W = .ok (.agg zA) W := by
  obtain ⟨i, hi, hz, hsz, hby⟩ := info_parts info91
  have e : Value.agg zA = Value.agg (Array.replicate 512 (.int .u8 0)) := by unfold zA; rw [zeros_nums, Array.toArray_toList]
  rw [e]
  generalize Value.agg (Array.replicate 512 (.int .u8 0)) = zv at hz
  simp [zeroValue, typeInfo, Sem.run_bind, hi, hz]
theorem run_alloc91 (W : World) : (Instr.alloc 91 true (.tuple #[])).run Try.prog W = .ok (.pointer (some ⟨W.heap.size, 0, none⟩)) (W.alloc (.cells zA 91)) := by
  unfold Instr.alloc
  rw [Sem.run_bind, zero91]
  simp only [Result.andThen_ok]
  simp [newVar, newRow, Sem.run_bind, Value.cells]
theorem run_put91 (W : World) (c : Array Value) (c' : List Value) (hc : c.size = 512) (hc' : c'.length = 512) (h1 : ∀ v ∈ c', v.oneCell' = true) :
    (Instr.storeAt 91 (.pointer (some ⟨W.heap.size, 0, none⟩)) (.agg c'.toArray)).run Try.prog (W.alloc (.cells c 91)) = .ok () (W.alloc (.cells c'.toArray 91)) := by
  obtain ⟨i, hi, hz, hsz, hby⟩ := info_parts info91
  have h := run_storeCells_new (P := Try.prog) W 91 c c'.toArray (by rw [List.size_toArray, hc']; exact size91) (by simp [hc', hc]) (all_oneCell_toArray h1)
  simp only [List.toList_toArray] at h
  simp [Instr.storeAt, Instr.sureAddr, storeVar, sizeOf, typeInfo, hi, hsz, Value.cells, hc', h]
theorem slice91 (n : Nat) (W : World) : (Instr.sliceAt 91 (.pointer (some ⟨n, 0, none⟩)) none none none).run Try.prog W = .ok (.slice (some ⟨n, 0, none⟩) 512 512) W := by
  have ha : Try.prog.arrayLen 91 = 512 := by kernel_rfl
  have he : Try.prog.elem 91 = 5 := by kernel_rfl
  have hs : (sizeOf 5).run Try.prog W = .ok 1 W := by
    obtain ⟨i, hi, _, hsz, _⟩ := info_parts info5
    simp [sizeOf, typeInfo, hi, hsz]
  rw [run_sliceAt_array_all W 91 ⟨n, 0, none⟩ (by kernel_rfl), he, hs, ha]
  rfl
def DS.reads (s : DS) : DS := ⟨s.n, s.L, s.W, s.c, wrap64 (s.r + 1), s.wr, s.fl⟩
def DS.cur (s : DS) (i : Nat) : List Int := match (s.W i).getLast? with | some b => b | none => s.L.getD i []
theorem sec_at {w : World} {base b n c : Nat} {l : List (List Int)} (h : Rs w base (.slice (some ⟨b, 0, none⟩) n c) l) (i : Nat) (hi : i < n) :
    w.rangeAt b (i * 512) (nums .u8 (l.getD i [])) ∧ (l.getD i []).length = 512 ∧ w.there b (i * 512) 512 := by
  obtain ⟨cs, hl, hM, hc, hf⟩ := Kd.R_elem h [] (i : Int) (by omega) (by omega)
  rw [Int.toNat_natCast] at hM hc hf
  obtain ⟨h1, h2⟩ := hM
  refine ⟨fun j v hv => hc j v (by rw [h2]; exact hv), h1, fun j hj => ⟨?_, hf j⟩⟩
  have hj' : j < cs.length := by rw [hl]; exact hj
  have := hc j _ (List.getElem?_eq_getElem hj')
  show (w.cell? ⟨b, i * 512 + j, none⟩).isSome = true
  rw [show i * 512 + j = i * sec.sz + j from rfl, this]
  rfl
theorem nums_one (l : List Int) : ∀ v ∈ nums .u8 l, v.oneCell' = true := fun v hv => by obtain ⟨y, _, rfl⟩ := List.mem_map.1 hv; rfl
section
variable {ops : Array Oper} {rest : List Oper} {o : Oper} {a : Act} {Q : Exit → Act → World → Prop} {W : World}
theorem ld91 (x : Operand) (ho : o.op = .load 91 x) (hg : o.guard = none) (b off : Nat) (hx : a.eval x = .pointer (some ⟨b, off, none⟩)) (cs : List Value) (hl : cs.length = 512) (hr : W.rangeAt b off cs)
    (h : wpList Try.prog ops Q rest (a.put o.dst (.agg cs.toArray)) W) : wpList Try.prog ops Q (o :: rest) a W :=
  wpList_load_mid hg _ x ho b off hx cs _ hr Try.underlying91 rfl (by rw [hl]; exact size91) h
theorem al91 (ho : o.op = .alloc 91) (hg : o.guard = none) (n : Nat) (hn : W.heap.size = n)
    (h : wpList Try.prog ops Q rest (a.put o.dst (.pointer (some ⟨n, 0, none⟩))) (W.alloc (.cells zA 91))) : wpList Try.prog ops Q (o :: rest) a W := by
  subst hn
  refine Great.wpList_runTo hg _ rfl _ _ ?_ h
  unfold execOp
  rw [ho]
  simp only [Sem.run_bind, run_alloc91, Result.andThen_ok]
  rfl
theorem st91 (x y : Operand) (ho : o.op = .store 91 x y) (hg : o.guard = none) (hd : o.dst = none) (n : Nat) (hn : W.heap.size = n) (c : Array Value) (c' : List Value) (hc : c.size = 512) (hc' : c'.length = 512) (h1 : ∀ v ∈ c', v.oneCell' = true)
    (hx : a.eval x = .pointer (some ⟨n, 0, none⟩)) (hy : a.eval y = .agg c'.toArray)
    (h : wpList Try.prog ops Q rest a (W.alloc (.cells c'.toArray 91))) : wpList Try.prog ops Q (o :: rest) a (W.alloc (.cells c 91)) := by
  subst hn
  refine wpList_plain hg fun K hK => ?_
  unfold Oper.wp execOp
  rw [ho]
  simp only [hx, hy, Sem.run_bind, run_put91 W c c' hc hc' h1, Result.andThen_ok]
  show K (a.put o.dst undef) _
  rw [hd]
  exact hK _ _ h
end
theorem C_blk {W : World} {n ty : Nat} {l : List Int} (h : W.heap[n]? = some (.cells (nums .u8 l).toArray ty (0, 0))) (hl : l.length ≤ 9223372036854775807) : (Kd.int .u8).C W (some ⟨n, 0, none⟩) l.length l := by
  refine ⟨rfl, hl, fun _ => ⟨_, rfl, fun j p hp => ⟨[.int .u8 p], rfl, rfl, fun i u hu => ?_⟩⟩⟩
  match i, hu with
  | 0, hu =>
    have hu' : Value.int .u8 p = u := by simpa using hu
    subst hu'
    show W.cell? ((⟨n, 0, none⟩ : Addr).add (j * 1 + 0)) = _
    rw [Nat.mul_one, Nat.add_zero, Addr.add_mid, Nat.zero_add, blk_cell h]
    simp [nums, hp]
  | i + 1, hu => simp at hu
end Go.Proofs.Ytddnhcnkjcdfgaa.M

namespace Go.Proofs.Ytddnhcnkjcdfgaa.M
open Go.RowKit Go.Maps Go.Proofs.YtddnhcnkjcdfgaaW.PrintWords Go.Proofs.YtddnhcnkjcdfgaaW.PrintLast Go.Proofs.YtddnhcnkjcdfgaaW.PrintMore
set_option linter.unusedVariables false
set_option linter.unusedSimpArgs false
section
variable {w : World} {base g lb cp mb k : Nat} {s : DS} {f : Nat → Value} {D : DataW Value}
theorem cur_nil {i : Nat} (h : s.W i = []) : s.cur i = s.L.getD i [] := by unfold DS.cur; rw [h]; rfl
theorem cur_last {i : Nat} (h : s.W i ≠ []) : s.cur i = (s.W i).getD ((s.W i).length - 1) [] := by
  unfold DS.cur
  rw [List.getLast?_eq_getElem?, List.getD_eq_getElem?_getD]
  have : (s.W i).length - 1 < (s.W i).length := by
    have := List.length_pos_iff.2 h
    omega
  rw [List.getElem?_eq_getElem this, List.getD_eq_getElem?_getD, List.getElem?_eq_getElem this]
  rfl
end
theorem read_end {w w2 W w5 : World} {base g lb cp mb k : Nat} {s : DS} {f : Nat → Value} {D : DataW Value} {v : Value} {o : Obj} {l l' : List Int} (hx : Chg (fun x => x = g) w w2) (h : DkIn W base g s lb cp mb f k D) (hl : l' = l) (hW : W = w2.alloc o)
    (hr : Kd.R (Kd.int .u8) 5 w5 W.heap.size (fun _ => True) v l ∧ Below W.heap.size W w5) :
    ∃ v', Ending.returned (.tuple #[v, .int .i64 0]) = Ending.returned (.tuple #[v', .int .i64 0]) ∧ Kd.R (Kd.int .u8) 5 w5 w.heap.size (fun _ => True) v' l' ∧ DkIn w5 base g s lb cp mb f k D ∧ Chg (fun x => x = g) w w5 := by
  subst hl hW
  have hs : w2.heap.size ≤ (w2.alloc o).heap.size := by simp
  exact ⟨v, rfl, Kd.R_lower hr.1 (Nat.le_trans hx.size hs), h.chg (G := fun _ => False) (Chg.of_below hr.2) (fun _ _ => id), hx.trans (Chg.of_below (F := fun _ => False) (below_step (below_alloc (Below.refl _ _) o) hr.2)) (fun _ h => h.elim)⟩
set_option maxHeartbeats 1000000 in
set_option maxRecDepth 100000 in
theorem read_in (g i : Nat) (w : World) (base lb cp mb k : Nat) (f : Nat → Value) (D : DataW Value) (s : DS) (h : DkIn w base g s lb cp mb f k D) (hi : i < s.n) :
    Calls Try.prog 25 #[.pointer (some ⟨g, 0, none⟩), .int .i64 (i : Int)] w fun e w' => ∃ v, e = .returned (.tuple #[v, .int .i64 0]) ∧ Kd.R (Kd.int .u8) 5 w' w.heap.size (fun _ => True) v (s.cur i) ∧ DkIn w' base g s.reads lb cp mb f k D ∧ Chg (fun x => x = g) w w' := by
  have hn2 := h.n2
  have hnm := h.nm
  have hg0 : w.cell? ⟨g, 0, none⟩ = some (.slice (some ⟨lb, 0, none⟩) s.n cp) := blk_cell h.hd 0
  have hg2 : w.cell? ⟨g, 2, none⟩ = some (.int .i64 s.r) := blk_cell h.hd 2
  have hgf : w.frozen? ⟨g, 2, none⟩ = false := blk_frozen h.hd 2
  have Hout := Aside0.mk (show Calls Try.prog 41 #[.pointer (some ⟨g, 0, none⟩), .int .i64 (i : Int)] w fun e w' => e = .returned (.bool false) ∧ w' = w from by
    have h_ := outside_calls g (i : Int) s.n (some ⟨lb, 0, none⟩) cp w hg0
    rw [show (!decide (0 ≤ (i : Int) ∧ (i : Int) < (s.n : Int))) = false by simp; omega] at h_
    exact h_)
  have H1 := Aside0.mk (h.acts 2 (wrap64 (s.r + 1)) s.reads ⟨rfl, rfl, rfl, rfl⟩ rfl)
  have HX := Aside0.mk (Chg.setCell (F := fun x => x = g) (Chg.refl _ w) rfl 2 (.int .i64 (wrap64 (s.r + 1))))
  have HI := Aside0.mk hi
  have hi0 : (0 : Int) ≤ (i : Int) := by omega
  have hi1 : (i : Int) < (s.n : Int) := by omega
  clear h hi
  go_enter Try.func25, Try.ntmps25
  go_upto_region 4 with (go_at_call 41; (with_reducible refine Hout.out.mono ?_); rintro e w1 ⟨rfl, hw_⟩; subst hw_)
  clear hg0 hg2 hgf Hout
  generalize w1.setCell ⟨g, 2, none⟩ (.int .i64 (wrap64 (s.r + 1))) = w2 at H1 HX ⊢
  have hg0 : w2.cell? ⟨g, 0, none⟩ = some (.slice (some ⟨lb, 0, none⟩) s.n cp) := blk_cell H1.out.hd 0
  have hg1 : w2.cell? ⟨g, 1, none⟩ = some (.map (some mb)) := blk_cell H1.out.hd 1
  have HL := Aside0.mk (sec_at H1.out.la i HI.out)
  obtain ⟨bL, hbL⟩ : ∃ x, x = s.L.getD i [] := ⟨_, rfl⟩
  obtain ⟨hLr, hLl, _⟩ : w2.rangeAt lb (i * 512) (nums .u8 (s.L.getD i [])) ∧ (s.L.getD i []).length = 512 ∧ w2.there lb (i * 512) 512 := HL.out
  rw [← hbL] at hLr hLl
  have HbL := Aside0.mk hbL
  have HN := Aside0.mk nums_one
  go_upto_region 5 with (first
    | ((with_reducible refine gate_ (.load 91 (.tmp 25)) rfl ?_); refine ld91 (.tmp 25) rfl rfl lb (i * 512) rfl (nums .u8 bL) (by rw [nums_length, hLl]) hLr ?_)
    | ((with_reducible refine gate_ (.alloc 91) rfl ?_); refine al91 rfl rfl w2.heap.size rfl ?_)
    | ((with_reducible refine gate_ (.store 91 (.tmp 6) (.tmp 26)) rfl ?_); refine st91 (.tmp 6) (.tmp 26) rfl rfl rfl w2.heap.size rfl zA (nums .u8 bL) zA_size (by rw [nums_length, hLl]) (HN.out _) rfl rfl ?_))
  have hgl := blk_lt H1.out.hd
  obtain ⟨cb, hcb⟩ : ∃ x, x = nums .u8 bL := ⟨_, rfl⟩
  rw [← hcb]
  have HC := Aside0.mk hcb
  have hcbl : cb.length = 512 := by rw [hcb, nums_length, hLl]
  have H2 := Aside0.mk (H1.out.chg (w' := w2.alloc (.cells cb.toArray 91)) (G := fun _ => False) (Chg.of_below (below_alloc (Below.refl _ _) _)) (fun _ _ => id))
  have hg1' : (w2.alloc (.cells cb.toArray 91)).cell? ⟨g, 1, none⟩ = some (.map (some mb)) := blk_cell H2.out.hd 1
  obtain ⟨A7, c7, e7⟩ := Kd.R_slice (H2.out.rows i HI.out)
  have hlk : (Instr.lookup 87 (.map (some mb)) (.int .i64 (i : Int)) false).run Try.prog (w2.alloc (.cells cb.toArray 91)) = .ok (.slice A7 (s.W i).length c7) (w2.alloc (.cells cb.toArray 91)) := e7 ▸ H2.out.look i HI.out
  have HE := Aside0.mk e7
  clear hcb hLr hg0 hg1 e7
  have hsl := fun W => slice91 w2.heap.size W
  by_cases hW : s.W i = []
  · have hWl : (s.W i).length = 0 := by rw [hW]; rfl
    have HW := Aside0.mk hW
    rw [hWl] at hlk
    clear hW hWl
    have HCL := Aside0.mk (show Calls Try.prog 44 #[.slice (some ⟨w2.heap.size, 0, none⟩) 512 512] (w2.alloc (.cells cb.toArray 91)) fun e w' => ∃ v, e = .returned v ∧ Kd.R (Kd.int .u8) 5 w' (w2.alloc (.cells cb.toArray 91)).heap.size (fun _ => True) v bL ∧ Below (w2.alloc (.cells cb.toArray 91)).heap.size (w2.alloc (.cells cb.toArray 91)) w' from
      clone_calls ⟨w2.heap.size, 0, none⟩ 512 512 bL _ (hLl ▸ C_blk (by rw [HC.out]; exact blk_new w2 _) (by omega)) (by omega))
    go_wp2_with (go_at_call 44; (with_reducible refine HCL.out.mono ?_); rintro e w5 ⟨v, rfl, hr, hb⟩; have HR := Aside0.mk (And.intro hr hb); clear hr hb)
    go_ret2
    exact read_end HX.out H2.out (by rw [cur_nil HW.out, ← HbL.out]) rfl HR.out
  · have HW := Aside0.mk hW
    have hWl : 0 < (s.W i).length := List.length_pos_iff.2 hW
    have hWc : (s.W i).length ≤ 9223372036854775807 := (Kd.R_reads' (HE.out ▸ H2.out.rows i HI.out)).2.2.2.1
    obtain ⟨b7, c7', e8, _⟩ := Kd.R_form (H2.out.rows i HI.out) hWl
    obtain ⟨rfl, rfl⟩ : A7 = some ⟨b7, 0, none⟩ ∧ c7 = c7' := by rw [HE.out] at e8; cases e8; exact ⟨rfl, rfl⟩
    have hS7 := sec_at (HE.out ▸ H2.out.rows i HI.out : Rs _ base (.slice (some ⟨b7, 0, none⟩) (s.W i).length c7) (s.W i)) ((s.W i).length - 1) (by omega)
    rw [← cur_last hW] at hS7
    obtain ⟨hSr, hSl, _⟩ := hS7
    obtain ⟨bC, hbC⟩ : ∃ x, x = s.cur i := ⟨_, rfl⟩
    have HbC := Aside0.mk hbC
    rw [← hbC] at hSr hSl
    have HSr := Aside0.mk hSr
    generalize (s.W i).length = ln at *
    have HCL := Aside0.mk (show Calls Try.prog 44 #[.slice (some ⟨w2.heap.size, 0, none⟩) 512 512] (w2.alloc (.cells (nums .u8 bC).toArray 91)) fun e w' => ∃ v, e = .returned v ∧ Kd.R (Kd.int .u8) 5 w' (w2.alloc (.cells (nums .u8 bC).toArray 91)).heap.size (fun _ => True) v bC ∧ Below (w2.alloc (.cells (nums .u8 bC).toArray 91)).heap.size (w2.alloc (.cells (nums .u8 bC).toArray 91)) w' from
      clone_calls ⟨w2.heap.size, 0, none⟩ 512 512 bC _ (hSl ▸ C_blk (blk_new w2 _) (by omega)) (by omega))
    have H3 := Aside0.mk (H1.out.chg (w' := w2.alloc (.cells (nums .u8 bC).toArray 91)) (G := fun _ => False) (Chg.of_below (below_alloc (Below.refl _ _) _)) (fun _ _ => id))
    have hl0 : (0 : Int) < (ln : Int) := by omega
    have hl1 : (0 : Int) ≤ (ln : Int) - 1 := by omega
    have hl2 : (ln : Int) - 1 < (ln : Int) := by omega
    clear hW e8 hbC hSr
    go_wp2_with (first
      | ((with_reducible refine gate_ (.load 91 (.tmp 40)) rfl ?_); refine ld91 (.tmp 40) rfl rfl b7 ((ln - 1) * 512) rfl (nums .u8 bC) (by rw [nums_length, hSl]) HSr.out ?_)
      | ((with_reducible refine gate_ (.store 91 (.tmp 6) (.tmp 41)) rfl ?_); refine st91 (.tmp 6) (.tmp 41) rfl rfl rfl w2.heap.size rfl cb.toArray (nums .u8 bC) (by rw [List.size_toArray, hcbl]) (by rw [nums_length, hSl]) (HN.out _) rfl rfl ?_)
      | (go_at_call 44; (with_reducible refine HCL.out.mono ?_); rintro e w5 ⟨v, rfl, hr, hb⟩; have HR := Aside0.mk (And.intro hr hb); clear hr hb))
    go_ret2
    exact read_end HX.out H3.out HbC.out.symm rfl HR.out
end Go.Proofs.Ytddnhcnkjcdfgaa.M

namespace Go.Proofs.Ytddnhcnkjcdfgaa.M
open Go.RowKit Go.Maps Go.Proofs.YtddnhcnkjcdfgaaW.PrintWords Go.Proofs.YtddnhcnkjcdfgaaW.PrintLast Go.Proofs.YtddnhcnkjcdfgaaW.PrintMore
set_option linter.unusedVariables false
set_option linter.unusedSimpArgs false
abbrev KB : Kd (List Int) := Kd.slice 5 (Kd.int .u8)
theorem S_put {W0 W1 : World} {base g n c : Nat} {xs : List (List Int)} {v : Value} {x' : List Int} (h : Kd.S KB 28 W0 base (fun _ => True) (.slice (some ⟨g, 0, none⟩) n c) xs) (hb : Below W0.heap.size W0 W1) (i : Nat) (hi : i < n) (hr : Kd.R (Kd.int .u8) 5 W1 W0.heap.size (fun _ => True) v x') (hbase : base ≤ W0.heap.size) :
    Kd.S KB 28 (W1.setCell ⟨g, i, none⟩ v) base (fun _ => True) (.slice (some ⟨g, 0, none⟩) n c) (xs.set i x') := by
  obtain ⟨f, hf⟩ := Kd.S_old h hb
  have hg : g < W0.heap.size := Kd.S_lt h g rfl
  have h1 : (Kd.tag (fun k => if k < W0.heap.size then f k else i) KB).R 28 W1 base (fun k => True ∧ k < W0.heap.size) (.slice (some ⟨g, 0, none⟩) n c) xs.zipIdx := Kd.R_tag hf (fun k hk _ => if_pos hk.2)
  have h2 := Kd.R_mono h1 (ok' := fun _ => True) (fun _ _ => trivial)
  obtain ⟨c0, hl, hM, hc, hfz⟩ := Kd.R_elem h2 ([], 0) (i : Int) (by omega) (by omega)
  rw [Int.toNat_natCast] at hc
  have h3 := Kd.R_seg h2 (i : Int) (by omega) (by omega) (j := 0) (seg := [v]) hl (by rw [Int.toNat_natCast]; exact hc) (show 0 + 1 ≤ 1 by decide) (x' := (x', i)) (okp := fun k => W0.heap.size ≤ k) ?_ (fun k hk => ⟨trivial, by omega⟩)
  · obtain ⟨h3, _⟩ := h3
    rw [Int.toNat_natCast] at h3
    refine ⟨fun k => if k < W0.heap.size then f k else i, ?_⟩
    · rw [show (xs.set i x').zipIdx = xs.zipIdx.set i (x', i) by
        apply List.ext_getElem?
        intro q
        rw [List.getElem?_zipIdx, List.getElem?_set, List.getElem?_set, List.length_zipIdx]
        by_cases e : i = q
        · subst e
          rw [if_pos rfl, if_pos rfl]
          by_cases e2 : i < xs.length
          · rw [if_pos e2, if_pos e2]; simp
          · rw [if_neg e2, if_neg e2]; rfl
        · rw [if_neg e, if_neg e, List.getElem?_zipIdx]]
      have e : W1.setCells g (i * (Kd.tag (fun k => if k < W0.heap.size then f k else i) KB).sz + 0) [v] = W1.setCell ⟨g, i, none⟩ v := by
        show W1.setCell ⟨g, i * 1 + 0, none⟩ v = _
        rw [Nat.mul_one, Nat.add_zero]
      rw [e] at h3
      exact h3
  · have hl1 : c0.length = 1 := hl
    obtain ⟨u, rfl⟩ : ∃ u, c0 = [u] := by
      match c0, hl1 with
      | [u], _ => exact ⟨u, rfl⟩
    refine ⟨v, rfl, Kd.R_lower (Kd.R_mono (Kd.R_bound hr) (fun k hk => ⟨hk.2.1, ?_⟩)) hbase⟩
    show (if k < W0.heap.size then f k else i) = i
    rw [if_neg (by have := hk.2.1; omega)]
theorem take_set (L : List (List Int)) (i : Nat) (hi : i < L.length) : (L.take i ++ List.replicate (L.length - i) []).set i (L.getD i []) = L.take (i + 1) ++ List.replicate (L.length - (i + 1)) [] := by
  rw [List.set_append_right _ _ (by rw [List.length_take]; omega), List.length_take, Nat.min_eq_left (by omega), Nat.sub_self]
  obtain ⟨m, hm⟩ : ∃ m, L.length - i = m + 1 := ⟨L.length - i - 1, by omega⟩
  rw [hm, List.replicate_succ, List.set_cons_zero, show L.length - (i + 1) = m by omega, List.take_succ_eq_append_getElem hi, List.getD_eq_getElem?_getD, List.getElem?_eq_getElem hi]
  simp only [List.append_assoc, List.singleton_append, Option.getD_some]
theorem info28 : (Try.prog.info? 28).map (fun i => (i.zero, i.size, i.bytes)) = some (some (.slice none 0 0), 1, 24) := by kernel_rfl
set_option maxHeartbeats 1000000 in
set_option maxRecDepth 100000 in
theorem image_in (g : Nat) (w : World) (base lb cp mb k : Nat) (f : Nat → Value) (D : DataW Value) (s : DS) (h : DkIn w base g s lb cp mb f k D) :
    Calls Try.prog 26 #[.pointer (some ⟨g, 0, none⟩)] w fun e w' => ∃ go c, e = .returned (.slice (some ⟨go, 0, none⟩) s.n c) ∧ Kd.S KB 28 w' w.heap.size (fun _ => True) (.slice (some ⟨go, 0, none⟩) s.n c) s.L ∧ Below w.heap.size w w' := by
  have hn2 := h.n2
  have hnm := h.nm
  have hgl := blk_lt h.hd
  have hLn : s.L.length = s.n := (Kd.R_reads' h.la).1.symm
  have hg0 : w.cell? ⟨g, 0, none⟩ = some (.slice (some ⟨lb, 0, none⟩) s.n cp) := blk_cell h.hd 0
  have H := Aside0.mk h
  have HLN := Aside0.mk hLn
  have HL5 := Aside0.mk (fun x hx => h.la.each x hx)
  clear h hLn
  generalize hn : s.n = n at *
  have HN := Aside0.mk hn
  clear hn
  go_enter Try.func26, Try.ntmps26
  go_upto_region 2 with (at_make; refine Kd.S_make KB (w0 := w) w.heap.size 28 rfl (N := 11) rfl 37 (.tmp 10) (.tmp 10) rfl (n : Int) rfl rfl Try.underlying37 (.slice none 0 0) 24 info28 rfl (by decide) (by decide) [] (ok := fun _ => True) (okp := fun _ => True) ?mz (fun _ _ => trivial) trivial (by omega) ?ml (Below.refl _ _) (Nat.le_refl _) ?_; (case mz => exact ⟨_, rfl, Kd.R_nil _ _ _ _ _⟩); (case ml => omega); intro v11 w2 hr hb hg hat; rw [Int.toNat_natCast] at hr; obtain ⟨go, co, e11, hgo, _, _⟩ := Kd.S_form hr (by rw [List.length_replicate]; omega); rw [List.length_replicate] at e11; subst e11; have HR := Aside0.mk hr; have HB := Aside0.mk hb; have hg0' : w2.cell? ⟨g, 0, none⟩ = some (.slice (some ⟨lb, 0, none⟩) n cp) := (hb.cell hgl).trans hg0; clear hr hb hg hat hgo)
  go_wp2
  go_loopg [17] n (fun k v17 wr => ∃ (i : Nat), v17 = .int .i64 i ∧ Aside0 (i + k = n) ∧ Aside0 (Kd.S KB 28 wr w.heap.size (fun _ => True) (.slice (some ⟨go, 0, none⟩) n co) (s.L.take i ++ List.replicate (n - i) [])) ∧ Aside0 (Below w.heap.size w wr))
  case atStart => exact ⟨0, rfl, ⟨Nat.zero_add _⟩, ⟨by simpa using HR.out⟩, HB⟩
  case round =>
    clear HR HB hg0'
    obtain ⟨i, rfl, HI, HR, HB⟩ := hrel
    have hD := H.out.chg (G := fun _ => False) (Chg.of_below HB.out) (fun _ _ => id)
    by_cases hi : i < n
    · have hi1 : (i : Int) < (n : Int) := by omega
      have hi0 : (0 : Int) ≤ (i : Int) := by omega
      have HII := Aside0.mk hi
      obtain ⟨bL, hbL⟩ : ∃ x, x = s.L.getD i [] := ⟨_, rfl⟩
      have hS := sec_at hD.la i (by rw [HN.out]; exact hi)
      rw [← hbL] at hS
      have HS := Aside0.mk hS
      have HbL := Aside0.mk hbL
      have hiw : wrap64 ((i : Int) + 1) = ((i + 1 : Nat) : Int) := by unfold wrap64; omega
      clear hi hS hbL hD
      go_upto_region 5 with (first
        | ((with_reducible refine gate_ (.load 91 (.tmp 20)) rfl ?_); refine ld91 (.tmp 20) rfl rfl lb (i * 512) rfl (nums .u8 bL) (by rw [nums_length, HS.out.2.1]) HS.out.1 ?_)
        | ((with_reducible refine gate_ (.alloc 91) rfl ?_); refine al91 rfl rfl wr.heap.size rfl ?_)
        | ((with_reducible refine gate_ (.store 91 (.tmp 5) (.tmp 21)) rfl ?_); refine st91 (.tmp 5) (.tmp 21) rfl rfl rfl wr.heap.size rfl zA (nums .u8 bL) zA_size (by rw [nums_length, HS.out.2.1]) (nums_one _) rfl rfl ?_))
      have HR4 := Aside0.mk (Kd.S_alloc HR.out (.cells (nums .u8 bL).toArray 91))
      have HB4 := Aside0.mk (below_alloc HB.out (.cells (nums .u8 bL).toArray 91))
      have HCL := Aside0.mk (clone_calls ⟨wr.heap.size, 0, none⟩ 512 512 bL (wr.alloc (.cells (nums .u8 bL).toArray 91)) (HS.out.2.1 ▸ C_blk (blk_new wr _) (by rw [HS.out.2.1]; decide)) (by decide))
      have hsl := fun W => slice91 wr.heap.size W
      clear HS
      generalize wr.alloc (.cells (nums .u8 bL).toArray 91) = w4 at HR4 HB4 HCL ⊢
      generalize wr.heap.size = ns at HCL hsl ⊢
      have HF := Aside0.mk (fun (W : World) (hb : Below w4.heap.size w4 W) => (show (∃ u, W.cell? ⟨go, i, none⟩ = some u) ∧ W.frozen? ⟨go, i, none⟩ = false from by
        obtain ⟨c, hl, _, hc, hf⟩ := Kd.R_elem (Kd.S_R (Kd.S_below HR4.out hb)) [] (i : Int) (by omega) (by have := HII.out; omega)
        rw [Int.toNat_natCast] at hc hf
        have hl1 : c.length = 1 := hl
        obtain ⟨u, rfl⟩ : ∃ u, c = [u] := by
          match c, hl1 with
          | [u], _ => exact ⟨u, rfl⟩
        have h1 := hc 0 u rfl
        have h2 := hf 0
        have e : i * KB.sz + 0 = i := Nat.mul_one i
        rw [e] at h1 h2
        exact ⟨⟨u, h1⟩, h2⟩))
      go_wp2_with (go_at_call 44; (with_reducible refine HCL.out.mono ?_); rintro e w5 ⟨v, rfl, hr, hb⟩; obtain ⟨A9, c9, e9⟩ := Kd.R_slice hr; subst e9; obtain ⟨⟨u, hu⟩, hf⟩ := HF.out w5 hb; have H5 := Aside0.mk (And.intro hr hb); clear hr hb)
      go_roundg (gk - 1)
      case measure => (have := HI.out; have := HII.out; omega)
      case rel =>
        have hp := S_put HR4.out H5.out.2 i HII.out H5.out.1 HB4.out.size
        have hbg := (below_step HB4.out H5.out.2).setCell (p := ⟨go, i, none⟩) (Kd.S_base HR4.out go rfl) (.slice A9 bL.length c9)
        have ht := take_set s.L i (by rw [HLN.out]; exact HII.out)
        rw [HLN.out, ← HbL.out] at ht
        rw [ht] at hp
        exact ⟨i + 1, by first | rfl | rw [hiw], ⟨by have := HI.out; have := HII.out; omega⟩, ⟨hp⟩, ⟨hbg⟩⟩
    · have hi1 : ¬ ((i : Int) < (n : Int)) := by omega
      have hin : i = n := by have := HI.out; omega
      subst hin
      clear hi
      go_wp2
      go_ret
      refine ⟨go, co, rfl, ?_, HB.out⟩
      have h1 := HR.out
      rw [Nat.sub_self, List.replicate_zero, List.append_nil, List.take_of_length_le (by rw [HLN.out]; exact Nat.le_refl _)] at h1
      exact h1
end Go.Proofs.Ytddnhcnkjcdfgaa.M

namespace Go.Proofs.Ytddnhcnkjcdfgaa.M
open Go.RowKit Go.Maps Go.Proofs.YtddnhcnkjcdfgaaW.PrintWords Go.Proofs.YtddnhcnkjcdfgaaW.PrintLast Go.Proofs.YtddnhcnkjcdfgaaW.PrintMore
set_option linter.unusedVariables false
set_option linter.unusedSimpArgs false
open Go.ChangeMaps (setBlock)
section
variable {w w' : World} {base g lb cp mb k : Nat} {F G : Nat → Prop} {s : DS} {f : Nat → Value} {D : DataW Value}
theorem DkIn.putL (h : DkIn w base g s lb cp mb f k D) (i : Nat) (hi : i < s.n) (b : List Int) (hb : b.length = 512) :
    DkIn (w.setCells lb (i * 512) (nums .u8 b)) base g ⟨s.n, s.L.set i b, s.W, s.c, s.r, s.wr, s.fl⟩ lb cp mb f k D ∧ w.grownBy (w.setCells lb (i * 512) (nums .u8 b)) (some lb) := by
  obtain ⟨c0, hl, hM, hc, hf⟩ := Kd.R_elem h.la [] (i : Int) (by omega) (by omega)
  have h3 := Kd.R_seg h.la (i : Int) (by omega) (by omega) (j := 0) (seg := nums .u8 b) hl hc (by show 0 + _ ≤ 512; rw [nums_length, hb]; decide) (x' := b) (okp := fun _ => False) ?_ (fun _ h => h.elim)
  · obtain ⟨h3, h4⟩ := h3
    rw [Int.toNat_natCast] at h3 h4
    have e : i * sec.sz + 0 = i * 512 := Nat.add_zero (i * 512)
    rw [e] at h3 h4
    have far := h4
    refine ⟨⟨blk_grown h.hd h4 (by have := h.lbg; simpa using this.symm), Rs.of h3, h.mp.kept h4 (by have := h.mbl; simpa using this), h.kc, h.at_, h.ks, fun j hj => (h.rows j hj).step (fun q hq hlt => h4.block q hlt (by have := (h.rowg hj hq).2.2; simpa using this)), h.wl, h.sep, h.sepl, h.gb, h.mbb, h.n2, h.nm⟩, h4⟩
  · refine ⟨hb, ?_⟩
    have hl' : c0.length = 512 := hl
    rw [List.take_zero, List.nil_append, List.drop_of_length_le (by rw [hl', nums_length, hb]; decide), List.append_nil]
theorem run_clear (hb : ∃ es ck, w.heap[mb]? = some (.map es ck)) (ty : TypeId) : ∃ ck, (Builtin.clear_ #[87] ty #[.map (some mb)]).run Try.prog w = .ok (.tuple #[]) (setBlock w mb (.map #[] ck)) := by
  obtain ⟨es, ck, hb⟩ := hb
  refine ⟨ck, ?_⟩
  simp [Builtin.clear_, run_underlying Try.underlying87, MapKept.run_getObj_map hb, MapKept.run_setObj_map _ hb, Result.andThen, setBlock]
theorem DkIn.clear (h : DkIn w base g s lb cp mb f k D) (ck : Nat) : DkIn (setBlock w mb (.map #[] ck)) base g ⟨s.n, s.L, fun _ => [], 0, s.r, s.wr, s.fl⟩ lb cp mb (fun _ => .slice none 0 0) 0 (.map []) ∧ Chg (fun x => x = mb) w (setBlock w mb (.map #[] ck)) := by
  obtain ⟨es, ck0, hb, r⟩ := h.mp
  have far : ∀ b, b ≠ mb → (setBlock w mb (.map #[] ck)).heap[b]? = w.heap[b]? := fun b hne => Go.ChangeMaps.heap_setBlock_other hb _ hne
  refine ⟨⟨(far g (fun e => h.mbg e.symm)).trans h.hd, h.la.step (fun b hb2 _ => far b (by cases hb2; exact fun e => h.mbl e.symm)), ⟨#[], ck, Go.ChangeMaps.heap_setBlock_same hb _, ⟨by simp, MapKept.stamped_empty ck, by simp⟩, Nat.le_refl _, rfl⟩, Nat.le_refl _, fun i _ => rfl, fun kl h => by simp [Maps.has] at h, fun i _ => ⟨fun k hk => by simp [Value.ownBlock] at hk, OwnRow.none_ _ _ _ _ _⟩, fun i _ => Nat.le_refl _, fun i j b _ _ h => by simp [Value.ownBlock] at h, fun i _ => by simp [Value.ownBlock], h.gb, h.mbb, h.n2, h.nm⟩, ⟨rfl, rfl, rfl, by simp [setBlock], fun b hlt hne => far b hne⟩⟩
end
end Go.Proofs.Ytddnhcnkjcdfgaa.M

namespace Go.Proofs.Ytddnhcnkjcdfgaa.M
open Go.RowKit Go.Maps Go.Proofs.YtddnhcnkjcdfgaaW.PrintWords Go.Proofs.YtddnhcnkjcdfgaaW.PrintLast Go.Proofs.YtddnhcnkjcdfgaaW.PrintMore
set_option linter.unusedVariables false
set_option linter.unusedSimpArgs false
open Go.ChangeMaps (setBlock)
def Half (s : DS) (left : Lit → Bool) (L : List (List Int)) : Prop := L.length = s.n ∧ ∀ j, j < s.n → L.getD j [] = if s.W j ≠ [] ∧ left (.int .i64 (j : Int)) = false then s.cur j else s.L.getD j []
theorem Half.step {s : DS} {left : Lit → Bool} {L : List (List Int)} (h : Half s left L) (i : Nat) (hi : i < s.n) (hW : s.W i ≠ []) : Half s (fun z => left z && !z.sameKey (.int .i64 (i : Int))) (L.set i (s.cur i)) := by
  refine ⟨by rw [List.length_set]; exact h.1, fun j hj => ?_⟩
  by_cases e : j = i
  · subst e
    have : (Lit.int .i64 (j : Int)).sameKey (.int .i64 (j : Int)) = true := WideAt.sameKey_self trivial
    rw [if_pos ⟨hW, by simp [this]⟩, List.getD_eq_getElem?_getD, List.getElem?_set_self (by rw [h.1]; exact hj)]
    rfl
  · have hne : (Lit.int .i64 (j : Int)).sameKey (.int .i64 (i : Int)) = false := Maps.sameKey_ne (fun e2 => e (by injection e2 with _ e2; omega))
    rw [List.getD_eq_getElem?_getD, List.getElem?_set_ne (Ne.symm e), ← List.getD_eq_getElem?_getD, h.2 j hj]
    simp [hne]
theorem Half.done {s : DS} {left : Lit → Bool} {L : List (List Int)} (h : Half s left L) (hl : ∀ kl, left kl = false) : L = (List.range s.n).map s.cur := by
  apply List.ext_getElem?
  intro j
  by_cases hj : j < s.n
  · have h1 := h.2 j hj
    rw [List.getElem?_map, List.getElem?_range hj, List.getElem?_eq_getElem (by rw [h.1]; exact hj)]
    rw [List.getD_eq_getElem?_getD, List.getElem?_eq_getElem (by rw [h.1]; exact hj)] at h1
    show some _ = some _
    congr 1
    have h1 : L[j]'(by rw [h.1]; exact hj) = _ := h1
    rw [h1]
    by_cases hW : s.W j = []
    · rw [if_neg (fun e => e.1 hW), cur_nil hW]
    · rw [if_pos ⟨hW, hl _⟩]
  · rw [List.getElem?_eq_none (by rw [h.1]; omega), List.getElem?_eq_none (by simp; omega)]
end Go.Proofs.Ytddnhcnkjcdfgaa.M

namespace Go.Proofs.Ytddnhcnkjcdfgaa.P
open Go.RowKit Go.Proofs.YtddnhcnkjcdfgaaW.PrintWords Go.Proofs.YtddnhcnkjcdfgaaW.PrintLast Go.Proofs.YtddnhcnkjcdfgaaW.PrintMore
attribute [local go_sem] max2_int min2_int max_two min_two max_three min_three max_four min_four   -- for this text's walks alone
set_option linter.unusedVariables false
set_option linter.unusedSimpArgs false
def errW : Option Int → Value
  | none => .nilIface
  | some c => .iface 0 (.int .i64 c)
theorem errW_none : errW none = .nilIface := rfl
theorem errW_some (c : Int) : errW (some c) = .iface 0 (.int .i64 c) := rfl
theorem info3 : (Try.prog.info? 3).map (fun i => (i.zero, i.size, i.bytes)) = some (some (.int .i64 0), 1, 8) := by kernel_rfl
theorem info5 : (Try.prog.info? 5).map (fun i => (i.zero, i.size, i.bytes)) = some (some (.int .u8 0), 1, 1) := by kernel_rfl
structure S30 where
  f0 : Int
  f1 : (List Int)
def z30 : S30 := ⟨(0 : Int), ([] : List Int)⟩
def rd_T30 (xs : List S30) (i : Int) : S30 := xs.getD i.toNat z30
structure S106 where
  f0 : Int
  f1 : (List Int)
end Go.Proofs.Ytddnhcnkjcdfgaa.P

namespace Go.Proofs.Ytddnhcnkjcdfgaa.P
open Go.RowKit Go.Proofs.YtddnhcnkjcdfgaaW.PrintWords Go.Proofs.YtddnhcnkjcdfgaaW.PrintLast Go.Proofs.YtddnhcnkjcdfgaaW.PrintMore
attribute [local go_sem] max2_int min2_int max_two min_two max_three min_three max_four min_four   -- for this text's walks alone
set_option linter.unusedVariables false
set_option linter.unusedSimpArgs false
def kilnlaw3_mod.f (a0 : Int) (a1 : Int) : Option (Int) := if a1 = 0 then (none) else (if (Int.tmod a0 a1) < 0 then (some (wrap64 ((Int.tmod a0 a1) + a1))) else (some (Int.tmod a0 a1)))
set_option maxHeartbeats 8000000 in
set_option maxRecDepth 100000 in
theorem kilnlaw3_mod.calls (a0 : Int) (a1 : Int) (r : Int) (w : World) (h : kilnlaw3_mod.f a0 a1 = some r) :
    Calls Try.prog 20 #[.int .i64 a0, .int .i64 a1] w fun e w' => e = .returned (.int .i64 r) ∧ Drawn0 w w' := by
  have H : (if a1 = 0 then (none) else (if (Int.tmod a0 a1) < 0 then (some (wrap64 ((Int.tmod a0 a1) + a1))) else (some (Int.tmod a0 a1)))) = some r := h
  clear h
  by_cases c3 : a1 = 0
  · rw [if_pos c3] at H
    exact absurd H (by simp)
  · rw [if_neg c3] at H
    have c3b0 : (a1 == 0) = false := beq_eq_false_iff_ne.mpr c3
    have c3b1 : (a1 != 0) = true := bne_iff_ne.mpr c3
    by_cases c4 : (Int.tmod a0 a1) < 0
    · rw [if_pos c4] at H
      have c4b0 : decide ((Int.tmod a0 a1) < 0) = true := decide_eq_true c4
      clear c4
      obtain rfl := Option.some.inj H
      go_enter Try.func20, Try.ntmps20
      go_wp2
      go_ret
      exact ⟨by first | rfl | (simp; done) | (simp [*]; done), by repeat (first | exact Drawn0.refl _ | apply Drawn0.step)⟩
    · rw [if_neg c4] at H
      have c4b0 : decide ((Int.tmod a0 a1) < 0) = false := decide_eq_false c4
      clear c4
      obtain rfl := Option.some.inj H
      go_enter Try.func20, Try.ntmps20
      go_wp2
      go_ret
      exact ⟨by first | rfl | (simp; done) | (simp [*]; done), by repeat (first | exact Drawn0.refl _ | apply Drawn0.step)⟩
end Go.Proofs.Ytddnhcnkjcdfgaa.P

namespace Go.Proofs.Ytddnhcnkjcdfgaa.M
open Go.RowKit Go.Maps Go.Proofs.YtddnhcnkjcdfgaaW.PrintWords Go.Proofs.YtddnhcnkjcdfgaaW.PrintLast Go.Proofs.YtddnhcnkjcdfgaaW.PrintMore
open Go.Proofs.Ytddnhcnkjcdfgaa.P
attribute [local go_sem] max2_int min2_int max_two min_two max_three min_three max_four min_four
set_option linter.unusedVariables false
set_option linter.unusedSimpArgs false
def DS.withR (s : DS) (r : Int) : DS := ⟨s.n, s.L, s.W, s.c, r, s.wr, s.fl⟩
theorem read_at (g i : Nat) (w : World) (base : Nat) (F : Nat → Prop) (s : DS) (h : DkAt w base g F s) (hi : i < s.n) :
    Calls Try.prog 25 #[.pointer (some ⟨g, 0, none⟩), .int .i64 (i : Int)] w fun e w' => ∃ v, e = .returned (.tuple #[v, .int .i64 0]) ∧ Kd.R (Kd.int .u8) 5 w' w.heap.size (fun _ => True) v (s.cur i) ∧ DkAt w' base g F s.reads ∧ Chg F w w' := by
  obtain ⟨lb, cp, mb, f, k, D, h1, h2⟩ := h
  refine (read_in g i w base lb cp mb k f D s h1 hi).mono ?_
  rintro e w' ⟨v, he, hr, hd, hc⟩
  exact ⟨v, he, hr, ⟨lb, cp, mb, f, k, D, hd, h2⟩, hc.mono (fun x hx => (h2 x).2 (.inl hx))⟩
theorem write_at (g i : Nat) (A : Option Addr) (c : Nat) (b : List Int) (w : World) (base : Nat) (F : Nat → Prop) (s : DS) (h : DkAt w base g F s) (hi : i < s.n) (hC : (Kd.int .u8).C w A 512 b) (hne : ∀ ad, A = some ad → ¬ F ad.block) (hc : s.c < 1073741824) :
    Calls Try.prog 16 #[.pointer (some ⟨g, 0, none⟩), .int .i64 (i : Int), .slice A 512 c] w fun e w' => e = .returned (.int .i64 0) ∧ ∃ F', DkAt w' base g F' (s.put i b) ∧ (∀ b, F' b → F b ∨ w.heap.size ≤ b) ∧ Chg F w w' := by
  obtain ⟨lb, cp, mb, f, k, D, h1, h2⟩ := h
  refine (write_in g i A c b w base lb cp mb k f D s h1 hi hC (fun ad e hf => hne ad e ((h2 _).2 hf)) hc).mono ?_
  rintro e w' ⟨he, F', hd, hF, hch⟩
  exact ⟨he, F', hd, fun b hb => (hF b hb).imp (fun h => (h2 b).2 h) id, hch.mono (fun x hx => (h2 x).2 hx)⟩
theorem image_at (g : Nat) (w : World) (base : Nat) (F : Nat → Prop) (s : DS) (h : DkAt w base g F s) :
    Calls Try.prog 26 #[.pointer (some ⟨g, 0, none⟩)] w fun e w' => ∃ go c, e = .returned (.slice (some ⟨go, 0, none⟩) s.n c) ∧ Kd.S KB 28 w' w.heap.size (fun _ => True) (.slice (some ⟨go, 0, none⟩) s.n c) s.L ∧ Below w.heap.size w w' := by
  obtain ⟨lb, cp, mb, f, k, D, h1, h2⟩ := h
  exact image_in g w base lb cp mb k f D s h1
end Go.Proofs.Ytddnhcnkjcdfgaa.M

namespace Go.Proofs.Ytddnhcnkjcdfgaa.M
open Go.RowKit Go.Maps Go.Proofs.YtddnhcnkjcdfgaaW.PrintWords Go.Proofs.YtddnhcnkjcdfgaaW.PrintLast Go.Proofs.YtddnhcnkjcdfgaaW.PrintMore
open Go.Proofs.Ytddnhcnkjcdfgaa.P
attribute [local go_sem] max2_int min2_int max_two min_two max_three min_three max_four min_four
set_option linter.unusedVariables false
set_option linter.unusedSimpArgs false
end Go.Proofs.Ytddnhcnkjcdfgaa.M

namespace Go.Proofs.Ytddnhcnkjcdfgaa.M
open Go.RowKit Go.Maps Go.Proofs.YtddnhcnkjcdfgaaW.PrintWords Go.Proofs.YtddnhcnkjcdfgaaW.PrintLast Go.Proofs.YtddnhcnkjcdfgaaW.PrintMore
open Go.Proofs.Ytddnhcnkjcdfgaa.P
attribute [local go_sem] max2_int min2_int max_two min_two max_three min_three max_four min_four
set_option linter.unusedVariables false
set_option linter.unusedSimpArgs false
end Go.Proofs.Ytddnhcnkjcdfgaa.M

namespace Go.Proofs.Ytddnhcnkjcdfgaa.M
open Go.RowKit Go.Maps Go.Proofs.YtddnhcnkjcdfgaaW.PrintWords Go.Proofs.YtddnhcnkjcdfgaaW.PrintLast Go.Proofs.YtddnhcnkjcdfgaaW.PrintMore
open Go.Proofs.Ytddnhcnkjcdfgaa.P
attribute [local go_sem] max2_int min2_int max_two min_two max_three min_three max_four min_four
set_option linter.unusedVariables false
set_option linter.unusedSimpArgs false
theorem Chg.cell {F : Nat → Prop} {a b : World} (h : Chg F a b) {x : Nat} (hn : ¬ F x) (hlt : x < a.heap.size) (o : Nat) : b.cell? ⟨x, o, none⟩ = a.cell? ⟨x, o, none⟩ := by
  unfold World.cell?
  simp only [h.block x hlt hn]
end Go.Proofs.Ytddnhcnkjcdfgaa.M

namespace Go.Proofs.Ytddnhcnkjcdfgaa.M
open Go.RowKit Go.Maps Go.Proofs.YtddnhcnkjcdfgaaW.PrintWords Go.Proofs.YtddnhcnkjcdfgaaW.PrintLast Go.Proofs.YtddnhcnkjcdfgaaW.PrintMore
open Go.Proofs.Ytddnhcnkjcdfgaa.P
set_option linter.unusedVariables false
set_option linter.unusedSimpArgs false
theorem w64 (x : Int) (h : -9223372036854775808 ≤ x) (h2 : x < 9223372036854775808) : wrap64 x = x := by unfold wrap64; omega
theorem mod_ok (a m : Int) (hm : 0 < m) (hM : m < 4611686018427387904) : ∃ r, kilnlaw3_mod.f a m = some r ∧ 0 ≤ r ∧ r < m := by
  unfold kilnlaw3_mod.f
  rw [if_neg (by omega)]
  have h1 : Int.tmod a m < m := Int.tmod_lt_of_pos a hm
  have h2 : -m < Int.tmod a m := by
    have h3 := Int.tmod_lt_of_pos (-a) hm
    rw [Int.neg_tmod] at h3
    omega
  by_cases h : Int.tmod a m < 0
  · rw [if_pos h, w64 _ (by omega) (by omega)]
    exact ⟨_, rfl, by omega, by omega⟩
  · rw [if_neg h]
    exact ⟨_, rfl, by omega, h1⟩
def Good (n : Nat) (out : List S30) : Prop := ∀ x ∈ out, (∃ i : Nat, i < n ∧ x.f0 = (i : Int)) ∧ x.f1.length = 512
theorem Good.at_ {n : Nat} {out : List S30} (h : Good n out) (j : Nat) (hj : j < out.length) : (∃ i : Nat, i < n ∧ (rd_T30 out (j : Int)).f0 = (i : Int)) ∧ (rd_T30 out (j : Int)).f1.length = 512 := by
  refine h _ ?_
  unfold rd_T30
  rw [Int.toNat_natCast, List.getD_eq_getElem?_getD, List.getElem?_eq_getElem hj]
  exact List.getElem_mem hj
end Go.Proofs.Ytddnhcnkjcdfgaa.M

namespace Go.Proofs.Ytddnhcnkjcdfgaa.P
open Go.RowKit Go.Proofs.YtddnhcnkjcdfgaaW.PrintWords Go.Proofs.YtddnhcnkjcdfgaaW.PrintLast Go.Proofs.YtddnhcnkjcdfgaaW.PrintMore
attribute [local go_sem] max2_int min2_int max_two min_two max_three min_three max_four min_four
set_option linter.unusedVariables false
set_option linter.unusedSimpArgs false
def kilnlaw3_mark.f (a0 : Int) (a1 : Int) : Option (List Int) := if 512 ≤ 281474976710656 then ((some (List.replicate 512 0 : List Int)).bind fun y264 => (if 0 < (y264.length : Int) then (if 1 < (y264.length : Int) then (if 2 < (y264.length : Int) then (if 3 < (y264.length : Int) then (if 511 < (y264.length : Int) then (some (((((y264.set (0 : Int).toNat ((a0) % 256)).set (1 : Int).toNat ((wrap64 (Int.tdiv a0 256)) % 256)).set (2 : Int).toNat ((a1) % 256)).set (3 : Int).toNat ((wrap64 (Int.tdiv a1 256)) % 256)).set (511 : Int).toNat ((wrap64 (1 + (Int.tmod a0 7))) % 256))) else (none)) else (none)) else (none)) else (none)) else (none))) else (none)
set_option maxHeartbeats 8000000 in
set_option maxRecDepth 100000 in
theorem kilnlaw3_mark.calls (a0 : Int) (a1 : Int) (r : List Int) (w : World) (h : kilnlaw3_mark.f a0 a1 = some r) :
    Calls Try.prog 31 #[.int .i64 a0, .int .i64 a1] w fun e w' => ∃ v0_ : Value, e = .returned (v0_) ∧ Kd.R (Kd.int .u8) 5 w' w.heap.size (fun _ => True) v0_ r ∧ Below w.heap.size w w' := by
  have HB := Aside0.mk (Below.refl w.heap.size w)
  have H : (if 512 ≤ 281474976710656 then ((some (List.replicate 512 0 : List Int)).bind fun y264 => (if 0 < (y264.length : Int) then (if 1 < (y264.length : Int) then (if 2 < (y264.length : Int) then (if 3 < (y264.length : Int) then (if 511 < (y264.length : Int) then (some (((((y264.set (0 : Int).toNat ((a0) % 256)).set (1 : Int).toNat ((wrap64 (Int.tdiv a0 256)) % 256)).set (2 : Int).toNat ((a1) % 256)).set (3 : Int).toNat ((wrap64 (Int.tdiv a1 256)) % 256)).set (511 : Int).toNat ((wrap64 (1 + (Int.tmod a0 7))) % 256))) else (none)) else (none)) else (none)) else (none)) else (none))) else (none)) = some r := h
  clear h
  by_cases c3 : 512 ≤ 281474976710656
  · rw [if_pos c3] at H
    have c3b0 := eq_true c3
    have c3b1 : decide (512 ≤ 281474976710656) = true := decide_eq_true c3
    clear c3
    obtain ⟨y264, hy264⟩ : ∃ y_ : List Int, y_ = (List.replicate 512 0) := ⟨_, rfl⟩
    replace H : (if 0 < (y264.length : Int) then (if 1 < (y264.length : Int) then (if 2 < (y264.length : Int) then (if 3 < (y264.length : Int) then (if 511 < (y264.length : Int) then (some (((((y264.set (0 : Int).toNat ((a0) % 256)).set (1 : Int).toNat ((wrap64 (Int.tdiv a0 256)) % 256)).set (2 : Int).toNat ((a1) % 256)).set (3 : Int).toNat ((wrap64 (Int.tdiv a1 256)) % 256)).set (511 : Int).toNat ((wrap64 (1 + (Int.tmod a0 7))) % 256))) else (none)) else (none)) else (none)) else (none)) else (none)) = some r := by first | (rw [hy264]; with_reducible exact H) | (have H2_ := (Option.bind_some _ _).symm.trans H; rw [hy264]; with_reducible exact H2_) | (have H2_ := (Option.bind_some _ _).symm.trans H; with_reducible exact H2_) | with_reducible exact H | (rw [hy264]; exact H) | exact H
    have Ny264 := Aside0.mk hy264
    clear hy264
    by_cases c4 : 0 < (y264.length : Int)
    · rw [if_pos c4] at H
      have c4b0 : decide (0 < (y264.length : Int)) = true := decide_eq_true c4
      have c4b1 : decide (0 < y264.length) = true := decide_eq_true (by omega)
      clear c4
      obtain ⟨y267, hy267⟩ : ∃ y_ : List Int, y_ = (y264.set (0 : Int).toNat ((a0) % 256)) := ⟨_, rfl⟩
      replace H : (if 1 < (y264.length : Int) then (if 2 < (y264.length : Int) then (if 3 < (y264.length : Int) then (if 511 < (y264.length : Int) then (some ((((y267.set (1 : Int).toNat ((wrap64 (Int.tdiv a0 256)) % 256)).set (2 : Int).toNat ((a1) % 256)).set (3 : Int).toNat ((wrap64 (Int.tdiv a1 256)) % 256)).set (511 : Int).toNat ((wrap64 (1 + (Int.tmod a0 7))) % 256))) else (none)) else (none)) else (none)) else (none)) = some r := by first | (rw [hy267]; with_reducible exact H) | (have H2_ := (Option.bind_some _ _).symm.trans H; rw [hy267]; with_reducible exact H2_) | (have H2_ := (Option.bind_some _ _).symm.trans H; with_reducible exact H2_) | with_reducible exact H | (rw [hy267]; exact H) | exact H
      have Ny267 := Aside0.mk hy267
      clear hy267
      by_cases c6 : 1 < (y264.length : Int)
      · rw [if_pos c6] at H
        have c6b0 : decide (1 < (y264.length : Int)) = true := decide_eq_true c6
        have c6b1 : decide (1 < y264.length) = true := decide_eq_true (by omega)
        clear c6
        obtain ⟨y268, hy268⟩ : ∃ y_ : List Int, y_ = (y267.set (1 : Int).toNat ((wrap64 (Int.tdiv a0 256)) % 256)) := ⟨_, rfl⟩
        replace H : (if 2 < (y264.length : Int) then (if 3 < (y264.length : Int) then (if 511 < (y264.length : Int) then (some (((y268.set (2 : Int).toNat ((a1) % 256)).set (3 : Int).toNat ((wrap64 (Int.tdiv a1 256)) % 256)).set (511 : Int).toNat ((wrap64 (1 + (Int.tmod a0 7))) % 256))) else (none)) else (none)) else (none)) = some r := by first | (rw [hy268]; with_reducible exact H) | (have H2_ := (Option.bind_some _ _).symm.trans H; rw [hy268]; with_reducible exact H2_) | (have H2_ := (Option.bind_some _ _).symm.trans H; with_reducible exact H2_) | with_reducible exact H | (rw [hy268]; exact H) | exact H
        have Ny268 := Aside0.mk hy268
        clear hy268
        by_cases c8 : 2 < (y264.length : Int)
        · rw [if_pos c8] at H
          have c8b0 : decide (2 < (y264.length : Int)) = true := decide_eq_true c8
          have c8b1 : decide (2 < y264.length) = true := decide_eq_true (by omega)
          clear c8
          obtain ⟨y269, hy269⟩ : ∃ y_ : List Int, y_ = (y268.set (2 : Int).toNat ((a1) % 256)) := ⟨_, rfl⟩
          replace H : (if 3 < (y264.length : Int) then (if 511 < (y264.length : Int) then (some ((y269.set (3 : Int).toNat ((wrap64 (Int.tdiv a1 256)) % 256)).set (511 : Int).toNat ((wrap64 (1 + (Int.tmod a0 7))) % 256))) else (none)) else (none)) = some r := by first | (rw [hy269]; with_reducible exact H) | (have H2_ := (Option.bind_some _ _).symm.trans H; rw [hy269]; with_reducible exact H2_) | (have H2_ := (Option.bind_some _ _).symm.trans H; with_reducible exact H2_) | with_reducible exact H | (rw [hy269]; exact H) | exact H
          have Ny269 := Aside0.mk hy269
          clear hy269
          by_cases c10 : 3 < (y264.length : Int)
          · rw [if_pos c10] at H
            have c10b0 : decide (3 < (y264.length : Int)) = true := decide_eq_true c10
            have c10b1 : decide (3 < y264.length) = true := decide_eq_true (by omega)
            clear c10
            obtain ⟨y270, hy270⟩ : ∃ y_ : List Int, y_ = (y269.set (3 : Int).toNat ((wrap64 (Int.tdiv a1 256)) % 256)) := ⟨_, rfl⟩
            replace H : (if 511 < (y264.length : Int) then (some (y270.set (511 : Int).toNat ((wrap64 (1 + (Int.tmod a0 7))) % 256))) else (none)) = some r := by first | (rw [hy270]; with_reducible exact H) | (have H2_ := (Option.bind_some _ _).symm.trans H; rw [hy270]; with_reducible exact H2_) | (have H2_ := (Option.bind_some _ _).symm.trans H; with_reducible exact H2_) | with_reducible exact H | (rw [hy270]; exact H) | exact H
            have Ny270 := Aside0.mk hy270
            clear hy270
            by_cases c12 : 511 < (y264.length : Int)
            · rw [if_pos c12] at H
              have c12b0 : decide (511 < (y264.length : Int)) = true := decide_eq_true c12
              have c12b1 : decide (511 < y264.length) = true := decide_eq_true (by omega)
              clear c12
              obtain ⟨y271, hy271⟩ : ∃ y_ : List Int, y_ = (y270.set (511 : Int).toNat ((wrap64 (1 + (Int.tmod a0 7))) % 256)) := ⟨_, rfl⟩
              replace H : (some y271) = some r := by first | (rw [hy271]; with_reducible exact H) | (have H2_ := (Option.bind_some _ _).symm.trans H; rw [hy271]; with_reducible exact H2_) | (have H2_ := (Option.bind_some _ _).symm.trans H; with_reducible exact H2_) | with_reducible exact H | (rw [hy271]; exact H) | exact H
              have Ny271 := Aside0.mk hy271
              clear hy271
              obtain rfl := Option.some.inj H
              go_enter Try.func31, Try.ntmps31
              go_wp2_with (first | ((with_reducible refine gate_dst (N := 6) rfl ?_); refine Kd.R_make (Kd.int .u8) _ 5 rfl (N := 6) rfl 28 _ _ rfl 512 rfl rfl Try.underlying28 (.int .u8 0) 1 info5 rfl (by decide) (by omega) 0 (ok := fun _ => True) (okp := fun _ => True) rfl (fun _ hk => hk) trivial (by omega) (by omega) (Below.refl _ _) (Nat.le_refl _) ?_; intro v265 w14 ho15 hb hg_ hnew_; clear hg_ hnew_; (first | rw [← Ny264.out] at ho15 | (simp only [Int.reduceToNat] at ho15; rw [← Ny264.out] at ho15)); have n0_ := Aside0.mk (Kd.R_lower ho15 (below_size (by repeat (first | (with_reducible first | exact HB.out | apply below_alloc | apply pw_below_drewN | apply below_drew1) | exact HB.out)))); have n1_ := Aside0.mk (below_step (by repeat (first | (with_reducible first | exact HB.out | apply below_alloc | apply pw_below_drewN | apply below_drew1) | exact HB.out)) hb); clear HB; have HO266 := n0_; have HB := n1_; clear n0_ n1_; clear hb ho15; have p5 : 0 ≤ (0 : Int) := (by omega); have q5 : (0 : Int) < ((y264.length : Int) : Int) := of_decide_eq_true (by first | (with_reducible assumption) | assumption); have qi5 : (0 < y264.length) = True := eq_true (by omega); obtain ⟨go5, co5, eo5, gb5, gl5, cl5, HG5⟩ := Kd.R_form HO266.out (by omega); (first | cases eo5 | (injection eo5 with ea_ en_ ec_; (first | subst ea_ | (injection ea_ with ea_; subst ea_)); subst ec_; clear en_)); have GB5 := Aside0.mk gb5; have GG5 := Aside0.mk HG5; clear gb5 gl5 HG5; obtain ⟨hx5_0, hf5_0⟩ := Kd.R_celln 0 HO266.out (0 : Int) p5 q5; (try rw [show ((0 : Int)).toNat = 0 from rfl] at hx5_0); (try simp only [Nat.reduceMul, Nat.zero_mul, Nat.zero_add, Nat.reduceAdd] at hx5_0); (try rw [show ((0 : Int)).toNat = 0 from rfl] at hf5_0); (try simp only [Nat.reduceMul, Nat.zero_mul, Nat.zero_add, Nat.reduceAdd] at hf5_0); replace p5 := eq_true p5; replace q5 := eq_true q5; obtain ⟨hy16_, hz16_⟩ := Kd.R_celln 0 HO266.out (0 : Int) (by omega) (of_decide_eq_true (by first | (with_reducible assumption) | assumption)); (try simp only [Int.reduceToNat, Int.toNat_zero, Int.toNat_ofNat, Nat.reduceMul, Nat.zero_mul, Nat.zero_add] at hy16_ hz16_); (try rw [show ((0 : Int)).toNat = 0 from rfl] at hy16_); (try rw [show ((0 : Int)).toNat = 0 from rfl] at hz16_); have HP16 := Kd.R_putg HO266.out (0 : Int) ((a0) % 256)) | ((with_reducible refine gate_store (t := 5) (p := 10) rfl ?_); refine store_event (t := 5) (p := 10) (v := ?vo_w17) (w1 := (w14.setCell ⟨go5, (0 : Int).toNat, none⟩ (.int .u8 ((a0) % 256)))) ?hg ?ho ?hn ?hr ?_; (case ho => rfl); (case hg => rfl); (case hn => rfl); (case hr => first | (go_simp; done) | (go_simp; rfl)); intro w17 hw; have hg : w14.grownBy w17 (some go5) := (by rw [hw]; exact HP16.2); have hp_ : Kd.R (Kd.int .u8) 5 w17 w.heap.size (fun _ => True) (.slice (some ⟨go5, 0, none⟩) y264.length co5) y267 := (by rw [hw, Ny267.out]; exact HP16.1); clear HP16; have n0_ := Aside0.mk (hp_); have n1_ := Aside0.mk ((by rw [hw]; exact below_set (HB.out) GB5.out : Below w.heap.size w w17)); clear HO266; clear HB; have HO266 := n0_; have HB := n1_; clear n0_ n1_; clear hg hw hp_; have p7 : 0 ≤ (1 : Int) := (by omega); have q7 : (1 : Int) < ((y264.length : Int) : Int) := of_decide_eq_true (by first | (with_reducible assumption) | assumption); have qi7 : (1 < y264.length) = True := eq_true (by omega); obtain ⟨hx7_0, hf7_0⟩ := Kd.R_celln 0 HO266.out (1 : Int) p7 q7; (try rw [show ((1 : Int)).toNat = 1 from rfl] at hx7_0); (try simp only [Nat.reduceMul, Nat.zero_mul, Nat.zero_add, Nat.reduceAdd] at hx7_0); (try rw [show ((1 : Int)).toNat = 1 from rfl] at hf7_0); (try simp only [Nat.reduceMul, Nat.zero_mul, Nat.zero_add, Nat.reduceAdd] at hf7_0); replace p7 := eq_true p7; replace q7 := eq_true q7; obtain ⟨hy18_, hz18_⟩ := Kd.R_celln 0 HO266.out (1 : Int) (by omega) (of_decide_eq_true (by first | (with_reducible assumption) | assumption)); (try simp only [Int.reduceToNat, Int.toNat_zero, Int.toNat_ofNat, Nat.reduceMul, Nat.zero_mul, Nat.zero_add] at hy18_ hz18_); (try rw [show ((1 : Int)).toNat = 1 from rfl] at hy18_); (try rw [show ((1 : Int)).toNat = 1 from rfl] at hz18_); have HP18 := Kd.R_putg HO266.out (1 : Int) ((wrap64 (Int.tdiv a0 256)) % 256)) | ((with_reducible refine gate_store (t := 5) (p := 15) rfl ?_); refine store_event (t := 5) (p := 15) (v := ?vo_w19) (w1 := (w17.setCell ⟨go5, (1 : Int).toNat, none⟩ (.int .u8 ((wrap64 (Int.tdiv a0 256)) % 256)))) ?hg ?ho ?hn ?hr ?_; (case ho => rfl); (case hg => rfl); (case hn => rfl); (case hr => first | (go_simp; done) | (go_simp; rfl)); intro w19 hw; have hg : w17.grownBy w19 (some go5) := (by rw [hw]; exact HP18.2); have hp_ : Kd.R (Kd.int .u8) 5 w19 w.heap.size (fun _ => True) (.slice (some ⟨go5, 0, none⟩) y264.length co5) y268 := (by rw [hw, Ny268.out]; exact HP18.1); clear HP18; have n0_ := Aside0.mk (hp_); have n1_ := Aside0.mk ((by rw [hw]; exact below_set (HB.out) GB5.out : Below w.heap.size w w19)); clear HO266; clear HB; have HO266 := n0_; have HB := n1_; clear n0_ n1_; clear hg hw hp_; have p9 : 0 ≤ (2 : Int) := (by omega); have q9 : (2 : Int) < ((y264.length : Int) : Int) := of_decide_eq_true (by first | (with_reducible assumption) | assumption); have qi9 : (2 < y264.length) = True := eq_true (by omega); obtain ⟨hx9_0, hf9_0⟩ := Kd.R_celln 0 HO266.out (2 : Int) p9 q9; (try rw [show ((2 : Int)).toNat = 2 from rfl] at hx9_0); (try simp only [Nat.reduceMul, Nat.zero_mul, Nat.zero_add, Nat.reduceAdd] at hx9_0); (try rw [show ((2 : Int)).toNat = 2 from rfl] at hf9_0); (try simp only [Nat.reduceMul, Nat.zero_mul, Nat.zero_add, Nat.reduceAdd] at hf9_0); replace p9 := eq_true p9; replace q9 := eq_true q9; obtain ⟨hy20_, hz20_⟩ := Kd.R_celln 0 HO266.out (2 : Int) (by omega) (of_decide_eq_true (by first | (with_reducible assumption) | assumption)); (try simp only [Int.reduceToNat, Int.toNat_zero, Int.toNat_ofNat, Nat.reduceMul, Nat.zero_mul, Nat.zero_add] at hy20_ hz20_); (try rw [show ((2 : Int)).toNat = 2 from rfl] at hy20_); (try rw [show ((2 : Int)).toNat = 2 from rfl] at hz20_); have HP20 := Kd.R_putg HO266.out (2 : Int) ((a1) % 256)) | ((with_reducible refine gate_store (t := 5) (p := 19) rfl ?_); refine store_event (t := 5) (p := 19) (v := ?vo_w21) (w1 := (w19.setCell ⟨go5, (2 : Int).toNat, none⟩ (.int .u8 ((a1) % 256)))) ?hg ?ho ?hn ?hr ?_; (case ho => rfl); (case hg => rfl); (case hn => rfl); (case hr => first | (go_simp; done) | (go_simp; rfl)); intro w21 hw; have hg : w19.grownBy w21 (some go5) := (by rw [hw]; exact HP20.2); have hp_ : Kd.R (Kd.int .u8) 5 w21 w.heap.size (fun _ => True) (.slice (some ⟨go5, 0, none⟩) y264.length co5) y269 := (by rw [hw, Ny269.out]; exact HP20.1); clear HP20; have n0_ := Aside0.mk (hp_); have n1_ := Aside0.mk ((by rw [hw]; exact below_set (HB.out) GB5.out : Below w.heap.size w w21)); clear HO266; clear HB; have HO266 := n0_; have HB := n1_; clear n0_ n1_; clear hg hw hp_; have p11 : 0 ≤ (3 : Int) := (by omega); have q11 : (3 : Int) < ((y264.length : Int) : Int) := of_decide_eq_true (by first | (with_reducible assumption) | assumption); have qi11 : (3 < y264.length) = True := eq_true (by omega); obtain ⟨hx11_0, hf11_0⟩ := Kd.R_celln 0 HO266.out (3 : Int) p11 q11; (try rw [show ((3 : Int)).toNat = 3 from rfl] at hx11_0); (try simp only [Nat.reduceMul, Nat.zero_mul, Nat.zero_add, Nat.reduceAdd] at hx11_0); (try rw [show ((3 : Int)).toNat = 3 from rfl] at hf11_0); (try simp only [Nat.reduceMul, Nat.zero_mul, Nat.zero_add, Nat.reduceAdd] at hf11_0); replace p11 := eq_true p11; replace q11 := eq_true q11; obtain ⟨hy22_, hz22_⟩ := Kd.R_celln 0 HO266.out (3 : Int) (by omega) (of_decide_eq_true (by first | (with_reducible assumption) | assumption)); (try simp only [Int.reduceToNat, Int.toNat_zero, Int.toNat_ofNat, Nat.reduceMul, Nat.zero_mul, Nat.zero_add] at hy22_ hz22_); (try rw [show ((3 : Int)).toNat = 3 from rfl] at hy22_); (try rw [show ((3 : Int)).toNat = 3 from rfl] at hz22_); have HP22 := Kd.R_putg HO266.out (3 : Int) ((wrap64 (Int.tdiv a1 256)) % 256)) | ((with_reducible refine gate_store (t := 5) (p := 24) rfl ?_); refine store_event (t := 5) (p := 24) (v := ?vo_w23) (w1 := (w21.setCell ⟨go5, (3 : Int).toNat, none⟩ (.int .u8 ((wrap64 (Int.tdiv a1 256)) % 256)))) ?hg ?ho ?hn ?hr ?_; (case ho => rfl); (case hg => rfl); (case hn => rfl); (case hr => first | (go_simp; done) | (go_simp; rfl)); intro w23 hw; have hg : w21.grownBy w23 (some go5) := (by rw [hw]; exact HP22.2); have hp_ : Kd.R (Kd.int .u8) 5 w23 w.heap.size (fun _ => True) (.slice (some ⟨go5, 0, none⟩) y264.length co5) y270 := (by rw [hw, Ny270.out]; exact HP22.1); clear HP22; have n0_ := Aside0.mk (hp_); have n1_ := Aside0.mk ((by rw [hw]; exact below_set (HB.out) GB5.out : Below w.heap.size w w23)); clear HO266; clear HB; have HO266 := n0_; have HB := n1_; clear n0_ n1_; clear hg hw hp_; have p13 : 0 ≤ (511 : Int) := (by omega); have q13 : (511 : Int) < ((y264.length : Int) : Int) := of_decide_eq_true (by first | (with_reducible assumption) | assumption); have qi13 : (511 < y264.length) = True := eq_true (by omega); obtain ⟨hx13_0, hf13_0⟩ := Kd.R_celln 0 HO266.out (511 : Int) p13 q13; (try rw [show ((511 : Int)).toNat = 511 from rfl] at hx13_0); (try simp only [Nat.reduceMul, Nat.zero_mul, Nat.zero_add, Nat.reduceAdd] at hx13_0); (try rw [show ((511 : Int)).toNat = 511 from rfl] at hf13_0); (try simp only [Nat.reduceMul, Nat.zero_mul, Nat.zero_add, Nat.reduceAdd] at hf13_0); replace p13 := eq_true p13; replace q13 := eq_true q13; obtain ⟨hy24_, hz24_⟩ := Kd.R_celln 0 HO266.out (511 : Int) (by omega) (of_decide_eq_true (by first | (with_reducible assumption) | assumption)); (try simp only [Int.reduceToNat, Int.toNat_zero, Int.toNat_ofNat, Nat.reduceMul, Nat.zero_mul, Nat.zero_add] at hy24_ hz24_); (try rw [show ((511 : Int)).toNat = 511 from rfl] at hy24_); (try rw [show ((511 : Int)).toNat = 511 from rfl] at hz24_); have HP24 := Kd.R_putg HO266.out (511 : Int) ((wrap64 (1 + (Int.tmod a0 7))) % 256)) | ((with_reducible refine gate_store (t := 5) (p := 30) rfl ?_); refine store_event (t := 5) (p := 30) (v := ?vo_w25) (w1 := (w23.setCell ⟨go5, (511 : Int).toNat, none⟩ (.int .u8 ((wrap64 (1 + (Int.tmod a0 7))) % 256)))) ?hg ?ho ?hn ?hr ?_; (case ho => rfl); (case hg => rfl); (case hn => rfl); (case hr => first | (go_simp; done) | (go_simp; rfl)); intro w25 hw; have hg : w23.grownBy w25 (some go5) := (by rw [hw]; exact HP24.2); have hp_ : Kd.R (Kd.int .u8) 5 w25 w.heap.size (fun _ => True) (.slice (some ⟨go5, 0, none⟩) y264.length co5) y271 := (by rw [hw, Ny271.out]; exact HP24.1); clear HP24; have n0_ := Aside0.mk (hp_); have n1_ := Aside0.mk ((by rw [hw]; exact below_set (HB.out) GB5.out : Below w.heap.size w w25)); clear HO266; clear HB; have HO266 := n0_; have HB := n1_; clear n0_ n1_; clear hg hw hp_))
              go_ret
              exact ⟨_, by first | rfl | (simp [errW_none, errW_some] <;> rfl) | (simp [*, errW_none, errW_some] <;> rfl), by (with_reducible repeat (first | apply Kd.R_alloc | apply Kd.R_drewN | apply Kd.R_drew)); exact HO266.out, by repeat (first | (with_reducible first | exact HB.out | apply below_alloc | apply pw_below_drewN | apply below_drew1) | exact HB.out)⟩
            · rw [if_neg c12] at H
              exact absurd H (by simp)
          · rw [if_neg c10] at H
            exact absurd H (by simp)
        · rw [if_neg c8] at H
          exact absurd H (by simp)
      · rw [if_neg c6] at H
        exact absurd H (by simp)
    · rw [if_neg c4] at H
      exact absurd H (by simp)
  · rw [if_neg c3] at H
    exact absurd H (by simp)
end Go.Proofs.Ytddnhcnkjcdfgaa.P
namespace Go.Proofs.Ytddnhcnkjcdfgaa.M
open Go.RowKit Go.Maps Go.Proofs.YtddnhcnkjcdfgaaW.PrintWords Go.Proofs.YtddnhcnkjcdfgaaW.PrintLast Go.Proofs.YtddnhcnkjcdfgaaW.PrintMore
open Go.Proofs.Ytddnhcnkjcdfgaa.P
def markL (i j : Int) : List Int := (kilnlaw3_mark.f i j).getD []
theorem mark_ok (i j : Int) : kilnlaw3_mark.f i j = some (markL i j) ∧ (markL i j).length = 512 := by
  have h : ∃ l, kilnlaw3_mark.f i j = some l ∧ l.length = 512 := by
    unfold kilnlaw3_mark.f
    rw [if_pos (by decide), Option.bind_some, List.length_replicate, if_pos (by decide), if_pos (by decide), if_pos (by decide), if_pos (by decide), if_pos (by decide)]
    exact ⟨_, rfl, by simp only [List.length_set, List.length_replicate]⟩
  obtain ⟨l, h1, h2⟩ := h
  have h3 : markL i j = l := by unfold markL; rw [h1]; rfl
  rw [h3]
  exact ⟨h1, h2⟩
end Go.Proofs.Ytddnhcnkjcdfgaa.M

namespace Go.Proofs.Ytddnhcnkjcdfgaa.M
open Go.RowKit Go.Maps Go.Proofs.YtddnhcnkjcdfgaaW.PrintWords Go.Proofs.YtddnhcnkjcdfgaaW.PrintLast Go.Proofs.YtddnhcnkjcdfgaaW.PrintMore
set_option linter.unusedVariables false
set_option linter.unusedSimpArgs false
structure Th where
  P : World → (Nat → Prop) → Prop
  foot : ∀ {w : World} {F : Nat → Prop}, P w F → ∀ b, F b → b < w.heap.size
  step : ∀ {w w' : World} {F : Nat → Prop}, P w F → (∀ b, F b → w'.heap[b]? = w.heap[b]?) → P w' F
def Hold (w : World) : List Th → (Nat → Prop) → Prop
  | [], _ => True
  | t :: L, U => ∃ F, t.P w F ∧ (∀ b, F b → U b) ∧ Hold w L (fun b => U b ∧ ¬ F b)
theorem Hold.mono {w : World} : ∀ {L : List Th} {U U' : Nat → Prop}, Hold w L U → (∀ b, U b → b < w.heap.size → U' b) → Hold w L U'
  | [], _, _, _, _ => trivial
  | t :: L, U, U', ⟨F, h1, h2, h3⟩, h => ⟨F, h1, fun b hb => h b (h2 b hb) (t.foot h1 b hb), Hold.mono h3 (fun b hb hlt => ⟨h b hb.1 hlt, hb.2⟩)⟩
theorem Hold.move {w w' : World} : ∀ {L : List Th} {U : Nat → Prop}, Hold w L U → (∀ b, U b → b < w.heap.size → w'.heap[b]? = w.heap[b]?) → Hold w' L U
  | [], _, _, _ => trivial
  | t :: L, U, ⟨F, h1, h2, h3⟩, h => ⟨F, t.step h1 (fun b hb => h b (h2 b hb) (t.foot h1 b hb)), h2, Hold.move h3 (fun b hb hlt => h b hb.1 hlt)⟩
theorem Hold.split {w : World} : ∀ {M L : List Th} {U : Nat → Prop}, Hold w (M ++ L) U → ∃ U1 : Nat → Prop, (∀ b, U1 b → U b) ∧ Hold w M U1 ∧ Hold w L (fun b => U b ∧ ¬ U1 b)
  | [], L, U, h => ⟨fun _ => False, fun _ h => h.elim, trivial, Hold.mono h (fun b hb _ => ⟨hb, fun h => h⟩)⟩
  | t :: M, L, U, ⟨F, h1, h2, h3⟩ => by
    obtain ⟨U1, e1, e2, e3⟩ := Hold.split (M := M) h3
    refine ⟨fun b => F b ∨ U1 b, fun b hb => hb.elim (h2 b) (fun h => (e1 b h).1), ⟨F, h1, fun b hb => .inl hb, Hold.mono e2 (fun b hb _ => ⟨.inr hb, (e1 b hb).2⟩)⟩, Hold.mono e3 (fun b hb _ => ⟨hb.1.1, fun h => h.elim hb.1.2 hb.2⟩)⟩
theorem Hold.append {w : World} : ∀ {M L : List Th} {U1 U2 U : Nat → Prop}, Hold w M U1 → Hold w L U2 → (∀ b, U1 b → U b ∧ ¬ U2 b) → (∀ b, U2 b → U b) → Hold w (M ++ L) U
  | [], L, U1, U2, U, _, h2, _, h4 => Hold.mono h2 (fun b hb _ => h4 b hb)
  | t :: M, L, U1, U2, U, ⟨F, h1, h2, h3⟩, h5, h6, h7 => ⟨F, h1, fun b hb => (h6 b (h2 b hb)).1, Hold.append (M := M) h3 h5 (fun b hb => ⟨⟨(h6 b hb.1).1, hb.2⟩, (h6 b hb.1).2⟩) (fun b hb => ⟨h7 b hb, fun hF => (h6 b (h2 b hF)).2 hb⟩)⟩
theorem Hold.perm {w : World} {L L' : List Th} (hp : L.Perm L') : ∀ {U : Nat → Prop}, Hold w L U → Hold w L' U := by
  induction hp with
  | nil => exact fun h => h
  | cons t _ ih => rintro U ⟨F, h1, h2, h3⟩; exact ⟨F, h1, h2, ih h3⟩
  | swap a b L =>
    rintro U ⟨F, h1, h2, G, g1, g2, h3⟩
    exact ⟨G, g1, fun x hx => (g2 x hx).1, F, h1, fun x hx => ⟨h2 x hx, fun hG => (g2 x hG).2 hx⟩, Hold.mono h3 (fun x hx _ => ⟨⟨hx.1.1, hx.2⟩, hx.1.2⟩)⟩
  | trans _ _ ih1 ih2 => exact fun h => ih2 (ih1 h)
structure Sep (w0 w : World) (L : List Th) : Prop where
  below : Below w0.heap.size w0 w
  hold : Hold w L (fun b => w0.heap.size ≤ b)
section
variable {w0 w w' : World} {L M N : List Th} {t t' : Th}
theorem Sep.refl (w : World) : Sep w w [] := ⟨Below.refl _ _, trivial⟩
theorem Sep.step (h : Sep w0 w L) (hb : Below w.heap.size w w') : Sep w0 w' L := ⟨below_step h.below hb, h.hold.move (fun b _ hlt => hb.block b hlt)⟩
theorem Sep.perm (h : Sep w0 w L) (hp : L.Perm M) : Sep w0 w M := ⟨h.below, h.hold.perm hp⟩
theorem Sep.up1 {a b : Th} (h : Sep w0 w (a :: b :: L)) : Sep w0 w (b :: a :: L) := h.perm (List.Perm.swap b a L)
theorem Sep.up2 {a b c : Th} (h : Sep w0 w (a :: b :: c :: L)) : Sep w0 w (c :: a :: b :: L) := h.perm (List.perm_middle (l₁ := [a, b]))
theorem Sep.up3 {a b c d : Th} (h : Sep w0 w (a :: b :: c :: d :: L)) : Sep w0 w (d :: a :: b :: c :: L) := h.perm (List.perm_middle (l₁ := [a, b, c]))
theorem Sep.up4 {a b c d e : Th} (h : Sep w0 w (a :: b :: c :: d :: e :: L)) : Sep w0 w (e :: a :: b :: c :: d :: L) := h.perm (List.perm_middle (l₁ := [a, b, c, d]))
theorem Sep.down2 {a b c : Th} (h : Sep w0 w (c :: a :: b :: L)) : Sep w0 w (a :: b :: c :: L) := h.perm (List.perm_middle (l₁ := [a, b])).symm
theorem Sep.down3 {a b c d : Th} (h : Sep w0 w (d :: a :: b :: c :: L)) : Sep w0 w (a :: b :: c :: d :: L) := h.perm (List.perm_middle (l₁ := [a, b, c])).symm
theorem Sep.drop (h : Sep w0 w (t :: L)) : Sep w0 w L := by
  obtain ⟨hb, F, h1, h2, h3⟩ := h
  exact ⟨hb, h3.mono (fun b hb _ => hb.1)⟩
theorem Sep.split (h : Sep w0 w (M ++ L)) : ∃ U : Nat → Prop, Hold w M U ∧ (∀ b, U b → w0.heap.size ≤ b) ∧ ∀ (N : List Th) (w' : World), Hold w' N (fun b => U b ∨ w.heap.size ≤ b) → Chg U w w' → Sep w0 w' (N ++ L) := by
  obtain ⟨hb, h1⟩ := h
  obtain ⟨U1, e1, e2, e3⟩ := h1.split
  have hs := below_size hb
  refine ⟨U1, e2, e1, fun N w' hN hc => ⟨Chg.below hb hc hs e1, ?_⟩⟩
  have h4 : Hold w L (fun b => (w0.heap.size ≤ b ∧ ¬ U1 b) ∧ b < w.heap.size) := e3.mono (fun b hb hlt => ⟨hb, hlt⟩)
  exact hN.append (h4.move (fun b hU hlt => hc.block b hlt hU.1.2)) (fun b hb => ⟨hb.elim (e1 b) (Nat.le_trans hs), fun hx => hb.elim hx.1.2 (fun h => Nat.not_lt.2 h hx.2)⟩) (fun b hb => hb.1.1)
theorem Sep.open_ (h : Sep w0 w (t :: L)) : ∃ F, t.P w F ∧ (∀ b, F b → w0.heap.size ≤ b) ∧ ∀ (N : List Th) (w' : World), Hold w' N (fun b => F b ∨ w.heap.size ≤ b) → Chg F w w' → Sep w0 w' (N ++ L) := by
  obtain ⟨U, ⟨F, h1, h2, _⟩, h3, h4⟩ := Sep.split (M := [t]) h
  refine ⟨F, h1, fun b hb => h3 b (h2 b hb), fun N w' hN hc => h4 N w' (hN.mono (fun b hb _ => hb.imp (h2 b) id)) (hc.mono h2)⟩
theorem Sep.open1 (h : Sep w0 w (t :: L)) : ∃ F, t.P w F ∧ (∀ b, F b → w0.heap.size ≤ b) ∧ ∀ (t' : Th) (w' : World) (F' : Nat → Prop), t'.P w' F' → (∀ b, F' b → F b ∨ w.heap.size ≤ b) → Chg F w w' → Sep w0 w' (t' :: L) := by
  obtain ⟨F, h1, h2, h3⟩ := h.open_
  exact ⟨F, h1, h2, fun t' w' F' h4 h5 hc => h3 [t'] w' ⟨F', h4, h5, trivial⟩ hc⟩
theorem Sep.push (h : Sep w0 w L) (hb : Below w.heap.size w w') {F : Nat → Prop} (ht : t.P w' F) (hF : ∀ b, F b → w.heap.size ≤ b) : Sep w0 w' (t :: L) := by
  obtain ⟨U, _, _, h3⟩ := Sep.split (M := []) h
  exact h3 [t] w' ⟨F, ht, fun b hb => .inr (hF b hb), trivial⟩ ((Chg.of_below (F := fun _ => False) hb).mono (fun _ h => h.elim))
theorem Sep.get (h : Sep w0 w (t :: L)) : ∃ F, t.P w F ∧ ∀ b, F b → w0.heap.size ≤ b := by
  obtain ⟨F, h1, h2, _⟩ := h.open_
  exact ⟨F, h1, h2⟩
theorem Sep.conv (h : Sep w0 w (t :: L)) (hc : ∀ F, t.P w F → ∃ F', t'.P w F' ∧ ∀ b, F' b → F b) : Sep w0 w (t' :: L) := by
  obtain ⟨F, h1, _, h3⟩ := h.open1
  obtain ⟨F', h4, h5⟩ := hc F h1
  exact h3 t' w F' h4 (fun b hb => .inl (h5 b hb)) (Chg.refl _ _)
theorem Sep.size (h : Sep w0 w L) : w0.heap.size ≤ w.heap.size := below_size h.below
end
theorem same_lt {w w' : World} {b : Nat} (h : w'.heap[b]? = w.heap[b]?) (hb : b < w.heap.size) : b < w'.heap.size := by
  rw [Array.getElem?_eq_getElem hb] at h
  exact (Array.getElem?_eq_some_iff.1 h).1
def ownT {α : Type} (d : Kd α) (e : Nat) (v : Value) (xs : List α) : Th where
  P := fun w F => (∃ base, d.R e w base F v xs) ∧ ∀ b, F b → b < w.heap.size
  foot := fun h => h.2
  step := by
    rintro w w' F ⟨⟨base, h1⟩, h2⟩ h
    exact ⟨⟨base, Kd.R_step h1 (fun k hk _ => h k hk)⟩, fun b hb => same_lt (h b hb) (h2 b hb)⟩
def rowsT {α : Type} (d : Kd α) (e : Nat) (v : Value) (xs : List α) : Th where
  P := fun w F => (∃ base, Kd.S d e w base F v xs) ∧ ∀ b, F b → b < w.heap.size
  foot := fun h => h.2
  step := by
    rintro w w' F ⟨⟨base, h1⟩, h2⟩ h
    exact ⟨⟨base, Kd.S_step h1 (fun k hk _ => h k hk)⟩, fun b hb => same_lt (h b hb) (h2 b hb)⟩
def cellsT (g : Nat) (cs : Array Value) (e : Nat) : Th where
  P := fun w F => w.heap[g]? = some (.cells cs e (0, 0)) ∧ ∀ b, F b ↔ b = g
  foot := by
    rintro w F ⟨h1, h2⟩ b hb
    rw [(h2 b).1 hb]
    exact blk_lt h1
  step := by
    rintro w w' F ⟨h1, h2⟩ h
    exact ⟨(h g ((h2 g).2 rfl)).trans h1, h2⟩
section
variable {w0 w w' : World} {L : List Th} {α : Type} {d : Kd α} {e : Nat} {v : Value} {xs : List α}
theorem Sep.push_own {ok : Nat → Prop} (h : Sep w0 w L) (hr : d.R e w' w.heap.size ok v xs) (hb : Below w.heap.size w w') : Sep w0 w' (ownT d e v xs :: L) :=
  h.push (t := ownT d e v xs) hb (F := fun k => w.heap.size ≤ k ∧ k < w'.heap.size) ⟨⟨w.heap.size, Kd.R_mono (Kd.R_bound hr) (fun k hk => ⟨hk.2.1, hk.2.2.1⟩)⟩, fun b hb => hb.2⟩ (fun b hb => hb.1)
theorem Sep.push_rows {ok : Nat → Prop} (h : Sep w0 w L) (hr : Kd.S d e w' w.heap.size ok v xs) (hb : Below w.heap.size w w') : Sep w0 w' (rowsT d e v xs :: L) :=
  h.push (t := rowsT d e v xs) hb (F := fun k => w.heap.size ≤ k ∧ k < w'.heap.size) ⟨⟨w.heap.size, Kd.S_mono (Kd.S_bound hr) (fun k hk => ⟨hk.2.1, hk.2.2.1⟩)⟩, fun b hb => hb.2⟩ (fun b hb => hb.1)
theorem Sep.push_nil (h : Sep w0 w L) (d : Kd α) (e : Nat) : Sep w0 w (ownT d e (.slice none 0 0) [] :: L) :=
  h.push (t := ownT d e _ _) (Below.refl _ _) (F := fun _ => False) ⟨⟨0, Kd.R_nil _ _ _ _ _⟩, fun _ h => h.elim⟩ (fun _ h => h.elim)
theorem Sep.own (h : Sep w0 w (ownT d e v xs :: L)) : ∃ base ok, d.R e w base ok v xs := by
  obtain ⟨F, ⟨⟨base, h1⟩, _⟩, _⟩ := h.get
  exact ⟨base, F, h1⟩
theorem Sep.rows (h : Sep w0 w (rowsT d e v xs :: L)) : ∃ base ok, Kd.S d e w base ok v xs := by
  obtain ⟨F, ⟨⟨base, h1⟩, _⟩, _⟩ := h.get
  exact ⟨base, F, h1⟩
theorem Sep.rows_own (h : Sep w0 w (rowsT d e v xs :: L)) : Sep w0 w (ownT d e v xs :: L) :=
  h.conv (fun F hF => ⟨F, ⟨⟨hF.1.choose, Kd.S_R hF.1.choose_spec⟩, hF.2⟩, fun _ h => h⟩)
theorem Sep.cells {g : Nat} {cs : Array Value} (h : Sep w0 w (cellsT g cs e :: L)) : w.heap[g]? = some (.cells cs e (0, 0)) ∧ w0.heap.size ≤ g := by
  obtain ⟨F, h1, h2⟩ := h.get
  exact ⟨h1.1, h2 g ((h1.2 g).2 rfl)⟩
end
theorem Sep.open_own {w0 w : World} {L : List Th} {α : Type} {d : Kd α} {e : Nat} {v : Value} {xs : List α} (h : Sep w0 w (ownT d e v xs :: L)) : ∃ ok : Nat → Prop, (∀ k, w.heap.size ≤ k → ok k) ∧ d.R e w 0 ok v xs ∧
    ∀ (v1 : Value) (ys : List α) (w' : World), d.R e w' 0 ok v1 ys → w.grownBy w' v.ownBlock → Sep w0 w' (ownT d e v1 ys :: L) := by
  obtain ⟨F, ⟨⟨base, h1⟩, h2⟩, h3, h4⟩ := h.open1
  refine ⟨fun k => F k ∨ w.heap.size ≤ k, fun k hk => .inr hk, Kd.R_mono (Kd.R_lower h1 (Nat.zero_le _)) (fun _ hk => .inl hk), fun v1 ys w' hr hg => ?_⟩
  exact h4 (ownT d e v1 ys) w' (fun k => (F k ∨ w.heap.size ≤ k) ∧ k < w'.heap.size) ⟨⟨0, Kd.R_mono (Kd.R_bound hr) (fun k hk => ⟨hk.1, hk.2.2.1⟩)⟩, fun b hb => hb.2⟩ (fun b hb => hb.1) (Chg.of_grown hg (fun k hk => h1.1 k hk))
theorem Sep.put {α : Type} {enc : α → Value} {h1 : ∀ x, (enc x).oneCell' = true} {w0 w : World} {L : List Th} {e g n cap : Nat} {xs : List α} (h : Sep w0 w (ownT (Kd.scalar enc h1) e (.slice (some ⟨g, 0, none⟩) n cap) xs :: L)) (i : Nat) (x : α) :
    Sep w0 (w.setCell ⟨g, i, none⟩ (enc x)) (ownT (Kd.scalar enc h1) e (.slice (some ⟨g, 0, none⟩) n cap) (xs.set i x) :: L) := by
  obtain ⟨F, ⟨⟨base, h2⟩, h3⟩, h4, h5⟩ := h.open1
  refine h5 (ownT _ e _ _) _ F ⟨⟨base, ?_⟩, fun b hb => by simpa [World.setCell] using h3 b hb⟩ (fun b hb => .inl hb) ((Chg.refl F w).setCell (h2.1 g rfl) i _)
  have h6 := Kd.R_putn h2 (i : Int) x
  rwa [Int.toNat_natCast] at h6
theorem Sep.cell {α : Type} {enc : α → Value} {h1 : ∀ x, (enc x).oneCell' = true} {w0 w : World} {L : List Th} {e g n cap : Nat} {xs : List α} (dflt : α) (h : Sep w0 w (ownT (Kd.scalar enc h1) e (.slice (some ⟨g, 0, none⟩) n cap) xs :: L)) (i : Nat) (hi : i < n) :
    w.cell? ⟨g, i, none⟩ = some (enc (xs.getD i dflt)) ∧ w.frozen? ⟨g, i, none⟩ = false := by
  obtain ⟨base, ok, h2⟩ := h.own
  have h3 := Kd.R_celln dflt h2 (i : Int) (by omega) (by omega)
  rw [Int.toNat_natCast] at h3
  exact h3
theorem add0' (b j : Nat) : (⟨b, 0, none⟩ : Addr).add j = ⟨b, j, none⟩ := by simp [Addr.add]; intro h; omega
section
variable {w0 w : World} {L : List Th} {bw n cw : Nat} {l : List (List Int)}
theorem Sep.slot (h : Sep w0 w (ownT KB 28 (.slice (some ⟨bw, 0, none⟩) n cw) l :: L)) (i : Nat) (hi : i < n) :
    ∃ A c, w.cell? ⟨bw, i, none⟩ = some (.slice A (l.getD i []).length c) ∧ w.frozen? ⟨bw, i, none⟩ = false ∧ (Kd.int .u8).C w A (l.getD i []).length (l.getD i []) ∧ (l.getD i []).length ≤ c := by
  obtain ⟨base, ok, hr⟩ := h.own
  obtain ⟨hl, hl2, hC⟩ := Kd.R_reads' hr
  obtain ⟨adi, cei, ei, hcli, hKi, hcelli⟩ := Kd.C_get hC ([] : List Int) (i : Int) (by omega) (by omega)
  obtain ⟨Ai, ci, rfl, hli, hCi⟩ := hKi
  have hxi := hcelli 0 _ rfl
  rw [Int.toNat_natCast, show i * KB.sz + 0 = i from Nat.mul_one i] at hxi
  rw [Int.toNat_natCast] at hli hCi
  obtain rfl := Option.some.inj ei
  rw [add0'] at hxi
  obtain ⟨c, _, _, _, hf⟩ := Kd.R_elem hr [] (i : Int) (by omega) (by omega)
  have h2 := hf 0
  rw [Int.toNat_natCast, show i * KB.sz + 0 = i from Nat.mul_one i] at h2
  exact ⟨Ai, ci, hxi, h2, hCi, hli⟩
theorem Sep.put_row {v : Value} {x : List Int} (h : Sep w0 w (ownT (Kd.int .u8) 5 v x :: ownT KB 28 (.slice (some ⟨bw, 0, none⟩) n cw) l :: L)) (i : Nat) (hi : i < n) :
    Sep w0 (w.setCell ⟨bw, i, none⟩ v) (ownT KB 28 (.slice (some ⟨bw, 0, none⟩) n cw) (l.set i x) :: L) := by
  obtain ⟨U, ⟨F1, ⟨⟨b1, h1⟩, hlt1⟩, h2, F2, ⟨⟨b2, h4⟩, hlt2⟩, h5, _⟩, h6, h7⟩ := Sep.split (M := [ownT (Kd.int .u8) 5 v x, ownT KB 28 (.slice (some ⟨bw, 0, none⟩) n cw) l]) h
  have hbw : F2 bw := h4.1 bw rfl
  have hr : Kd.R KB 28 w 0 (fun k => F1 k ∨ F2 k) (.slice (some ⟨bw, 0, none⟩) n cw) l := Kd.R_mono (Kd.R_lower h4 (Nat.zero_le _)) (fun _ hk => .inr hk)
  obtain ⟨c0, hl, hM, hc, hfz⟩ := Kd.R_elem hr [] (i : Int) (by omega) (by omega)
  rw [Int.toNat_natCast] at hc
  have h3 := Kd.R_seg hr (i : Int) (by omega) (by omega) (j := 0) (seg := [v]) hl (by rw [Int.toNat_natCast]; exact hc) (show 0 + 1 ≤ 1 by decide) (x' := x) (okp := F1) (by
    have hl1 : c0.length = 1 := hl
    obtain ⟨u, rfl⟩ : ∃ u, c0 = [u] := by
      match c0, hl1 with
      | [u], _ => exact ⟨u, rfl⟩
    exact ⟨v, rfl, Kd.R_lower h1 (Nat.zero_le _)⟩) (fun k hk => ⟨.inl hk, fun e => (h5 bw hbw).2 (e ▸ hk)⟩)
  obtain ⟨h3, _⟩ := h3
  rw [Int.toNat_natCast] at h3
  have e : w.setCells bw (i * KB.sz + 0) [v] = w.setCell ⟨bw, i, none⟩ v := by
    show w.setCell ⟨bw, i * 1 + 0, none⟩ v = _
    rw [Nat.mul_one, Nat.add_zero]
  rw [e] at h3
  refine h7 [ownT KB 28 _ _] _ ⟨fun k => F1 k ∨ F2 k, ⟨⟨0, h3⟩, fun b hb => by simpa [World.setCell] using hb.elim (hlt1 b) (hlt2 b)⟩, fun b hb => .inl (hb.elim (h2 b) (fun h => (h5 b h).1)), trivial⟩ ((Chg.refl U w).setCell (h5 bw hbw).1 i v)
end
end Go.Proofs.Ytddnhcnkjcdfgaa.M

namespace Go.Proofs
open Go.Shelf
def Try.keysA_ren : Go.Shelf.Ren := ⟨fun | 7 => 46 | 10 => 58 | n => n, fun | 23 => 87 | 26 => 3 | 3 => 86 | 28 => 95 | 0 => 0 | 27 => 94 | 33 => 85 | 4 => 4 | n => n, fun | n => n⟩
theorem Try.keysA : Go.Proofs.SlLaysZI.n7 Try.prog Try.keysA_ren := {
  mixed := by kernel_rfl
  f7 := ⟨Try.f46.name, by decide, Try.func46.trans (congrArg some (by kernel_rfl))⟩
  f10 := ⟨Try.f58.name, by decide, Try.func58.trans (congrArg some (by kernel_rfl))⟩
  t0 := Try.underlying0
  a0 := Try.isAgg0
  z0 := Try.sizeOf0
  v0 := Try.zeroValue0
  t4 := Try.underlying4
  a4 := Try.isAgg4
  z4 := Try.sizeOf4
  v4 := Try.zeroValue4
  t23 := Try.underlying87
  a23 := Try.isAgg87
  z23 := Try.sizeOf87
  v23 := Try.zeroValue87
  t26 := Try.underlying3
  a26 := Try.isAgg3
  z26 := Try.sizeOf3
  v26 := Try.zeroValue3
  t27 := Try.underlying94
  a27 := Try.isAgg94
  z27 := Try.sizeOf94
  v27 := Try.zeroValue94
  t28 := Try.underlying95
  a28 := Try.isAgg95
  z28 := Try.sizeOf95
  v28 := Try.zeroValue95
  t33 := Try.underlying85
  a33 := Try.isAgg85
  z33 := Try.sizeOf85
  v33 := Try.zeroValue85 }
def Try.sortedA_ren : Go.Shelf.Ren := ⟨fun | 6 => 45 | 8 => 56 | 9 => 57 | 11 => 65 | 13 => 67 | 12 => 66 | 23 => 77 | 24 => 78 | 14 => 68 | 15 => 69 | 16 => 70 | 17 => 71 | 18 => 72 | 19 => 73 | 20 => 74 | 21 => 75 | 22 => 76 | 25 => 79 | 26 => 80 | 27 => 81 | 28 => 82 | 29 => 83 | 30 => 84 | 31 => 85 | n => n, fun | 26 => 3 | 28 => 95 | 24 => 51 | 0 => 0 | 3 => 3 | 37 => 116 | 48 => 127 | 50 => 129 | 4 => 4 | 40 => 119 | 39 => 118 | 45 => 124 | 5 => 5 | 9 => 9 | 51 => 130 | 55 => 134 | 57 => 136 | 58 => 137 | 33 => 85 | n => n, fun | n => n⟩
theorem Try.sortedA : Go.Proofs.SlLaysZI.n6 Try.prog Try.sortedA_ren := {
  mixed := by kernel_rfl
  f6 := ⟨Try.f45.name, by decide, Try.func45.trans (congrArg some (by kernel_rfl))⟩
  f8 := ⟨Try.f56.name, by decide, Try.func56.trans (congrArg some (by kernel_rfl))⟩
  f11 := ⟨Try.f65.name, by decide, Try.func65.trans (congrArg some (by kernel_rfl))⟩
  t0 := Try.underlying0
  a0 := Try.isAgg0
  z0 := Try.sizeOf0
  v0 := Try.zeroValue0
  t24 := Try.underlying51
  a24 := Try.isAgg51
  z24 := Try.sizeOf51
  v24 := Try.zeroValue51
  t26 := Try.underlying3
  a26 := Try.isAgg3
  z26 := Try.sizeOf3
  v26 := Try.zeroValue3
  t28 := Try.underlying95
  a28 := Try.isAgg95
  z28 := Try.sizeOf95
  v28 := Try.zeroValue95
  i26 := by kernel_rfl }
def Try.sortA_ren : Go.Shelf.Ren := ⟨fun | 5 => 57 | 8 => 67 | 7 => 66 | 19 => 77 | 20 => 78 | 10 => 68 | 11 => 69 | 12 => 70 | 13 => 71 | 14 => 72 | 15 => 73 | 16 => 74 | 17 => 75 | 18 => 76 | 30 => 79 | 31 => 80 | 32 => 81 | 33 => 82 | 34 => 83 | 35 => 84 | 40 => 85 | n => n, fun | 23 => 51 | 25 => 3 | 3 => 3 | 32 => 116 | 22 => 51 | 0 => 0 | 44 => 127 | 46 => 129 | 4 => 4 | 36 => 119 | 35 => 118 | 41 => 124 | 5 => 5 | 9 => 9 | 53 => 130 | 57 => 134 | 63 => 136 | 64 => 137 | n => n, fun | n => n⟩
theorem Try.sortA : Go.Proofs.SlLaysM.n5 Try.prog Try.sortA_ren := {
  mixed := by kernel_rfl
  f5 := ⟨Try.f57.name, by decide, Try.func57.trans (congrArg some (by kernel_rfl))⟩
  f7 := ⟨Try.f66.name, by decide, Try.func66.trans (congrArg some (by kernel_rfl))⟩
  f8 := Try.func67.trans (congrArg some (by kernel_rfl))
  f10 := ⟨Try.f68.name, by decide, Try.func68.trans (congrArg some (by kernel_rfl))⟩
  f11 := ⟨Try.f69.name, by decide, Try.func69.trans (congrArg some (by kernel_rfl))⟩
  f12 := ⟨Try.f70.name, by decide, Try.func70.trans (congrArg some (by kernel_rfl))⟩
  f13 := ⟨Try.f71.name, by decide, Try.func71.trans (congrArg some (by kernel_rfl))⟩
  f14 := ⟨Try.f72.name, by decide, Try.func72.trans (congrArg some (by kernel_rfl))⟩
  f15 := ⟨Try.f73.name, by decide, Try.func73.trans (congrArg some (by kernel_rfl))⟩
  f16 := ⟨Try.f74.name, by decide, Try.func74.trans (congrArg some (by kernel_rfl))⟩
  f17 := ⟨Try.f75.name, by decide, Try.func75.trans (congrArg some (by kernel_rfl))⟩
  f18 := ⟨Try.f76.name, by decide, Try.func76.trans (congrArg some (by kernel_rfl))⟩
  f19 := Try.func77.trans (congrArg some (by kernel_rfl))
  f20 := Try.func78.trans (congrArg some (by kernel_rfl))
  f30 := ⟨Try.f79.name, by decide, Try.func79.trans (congrArg some (by kernel_rfl))⟩
  f31 := Try.func80.trans (congrArg some (by kernel_rfl))
  f32 := Try.func81.trans (congrArg some (by kernel_rfl))
  f33 := ⟨Try.f82.name, by decide, Try.func82.trans (congrArg some (by kernel_rfl))⟩
  f34 := ⟨Try.f83.name, by decide, Try.func83.trans (congrArg some (by kernel_rfl))⟩
  f35 := ⟨Try.f84.name, by decide, Try.func84.trans (congrArg some (by kernel_rfl))⟩
  f40 := ⟨Try.f85.name, by decide, Try.func85.trans (congrArg some (by kernel_rfl))⟩
  t0 := Try.underlying0
  a0 := Try.isAgg0
  z0 := Try.sizeOf0
  v0 := Try.zeroValue0
  t3 := Try.underlying3
  a3 := Try.isAgg3
  z3 := Try.sizeOf3
  v3 := Try.zeroValue3
  t4 := Try.underlying4
  a4 := Try.isAgg4
  z4 := Try.sizeOf4
  v4 := Try.zeroValue4
  t5 := Try.underlying5
  a5 := Try.isAgg5
  z5 := Try.sizeOf5
  v5 := Try.zeroValue5
  t9 := Try.underlying9
  a9 := Try.isAgg9
  z9 := Try.sizeOf9
  v9 := Try.zeroValue9
  t22 := Try.underlying51
  a22 := Try.isAgg51
  z22 := Try.sizeOf51
  v22 := Try.zeroValue51
  t23 := Try.underlying51
  a23 := Try.isAgg51
  z23 := Try.sizeOf51
  v23 := Try.zeroValue51
  t25 := Try.underlying3
  a25 := Try.isAgg3
  z25 := Try.sizeOf3
  v25 := Try.zeroValue3
  t32 := Try.underlying116
  a32 := Try.isAgg116
  z32 := Try.sizeOf116
  v32 := Try.zeroValue116
  t35 := Try.underlying118
  a35 := Try.isAgg118
  z35 := Try.sizeOf118
  v35 := Try.zeroValue118
  t36 := Try.underlying119
  a36 := Try.isAgg119
  z36 := Try.sizeOf119
  v36 := Try.zeroValue119
  t41 := Try.underlying124
  a41 := Try.isAgg124
  z41 := Try.sizeOf124
  v41 := Try.zeroValue124
  t44 := Try.underlying127
  a44 := Try.isAgg127
  z44 := Try.sizeOf127
  v44 := Try.zeroValue127
  t46 := Try.underlying129
  a46 := Try.isAgg129
  z46 := Try.sizeOf129
  v46 := Try.zeroValue129
  t53 := Try.underlying130
  a53 := Try.isAgg130
  z53 := Try.sizeOf130
  v53 := Try.zeroValue130
  t57 := Try.underlying134
  a57 := Try.isAgg134
  z57 := Try.sizeOf134
  v57 := Try.zeroValue134
  t63 := Try.underlying136
  a63 := Try.isAgg136
  z63 := Try.sizeOf136
  v63 := Try.zeroValue136
  t64 := Try.underlying137
  a64 := Try.isAgg137
  z64 := Try.sizeOf137
  v64 := Try.zeroValue137 }
open Go.RowKit Go.Maps Go.Sort in
theorem Try.sortsA (m : Nat) : AnyZI.SortsIn Try.prog Try.sortedA_ren Fence.wide m :=
  ⟨fun blk off cap ss W hH hblk hsz => callsIn_wide.2 (AnyM.slices_Sort_int Try.sortA blk off cap ss W hH hblk hsz),
   fun p cap W => callsIn_wide.2 (AnyM.slices_Sort_int_none Try.sortA p cap W)⟩
end Go.Proofs

namespace Go.Proofs.Ytddnhcnkjcdfgaa.M
open Go.RowKit Go.Maps Go.Sort Go.Shelf Go.Proofs.YtddnhcnkjcdfgaaW.PrintWords Go.Proofs.YtddnhcnkjcdfgaaW.PrintLast Go.Proofs.YtddnhcnkjcdfgaaW.PrintMore
set_option linter.unusedVariables false
set_option linter.unusedSimpArgs false
def DS.keysN (s : DS) : List Nat := (List.range s.n).filter (fun i => decide (s.W i ≠ []))
def DS.keysI (s : DS) : List Int := s.keysN.map (fun i : Nat => (i : Int))
theorem DS.mem_keysN (s : DS) (i : Nat) : i ∈ s.keysN ↔ i < s.n ∧ s.W i ≠ [] := by
  unfold DS.keysN
  rw [List.mem_filter, List.mem_range, decide_eq_true_eq]
theorem DS.keysN_rising (s : DS) : s.keysN.Pairwise (· < ·) := List.Pairwise.filter _ List.pairwise_lt_range
theorem DS.keysN_len (s : DS) : s.keysN.length ≤ s.n := by
  have := List.length_filter_le (fun i => decide (s.W i ≠ [])) (List.range s.n)
  rw [List.length_range] at this
  exact this
section
variable {w w' : World} {base g lb cp mb k : Nat} {F G : Nat → Prop} {s : DS} {f : Nat → Value} {D : DataW Value}
theorem DkIn.has_iff (h : DkIn w base g s lb cp mb f k D) (x : Int) : x ∈ s.keysI ↔ Maps.has D (.int .i64 x) = true := by
  constructor
  · intro hx
    obtain ⟨i, hi, rfl⟩ := List.mem_map.1 hx
    obtain ⟨hi, hW⟩ := (s.mem_keysN i).1 hi
    cases hh : Maps.has D (.int .i64 (i : Int)) with
    | true => rfl
    | false =>
      exfalso
      have h3 := h.at_ i hi
      rw [Maps.atKey_of_not_has hh] at h3
      have h4 : f i = .slice none 0 0 := (DataW.held.inj h3).symm
      have h5 := h.rows i hi
      rw [h4] at h5
      exact hW (List.length_eq_zero_iff.1 (Kd.R_reads' h5).1.symm)
  · intro hx
    obtain ⟨i, hi, e, hW⟩ := h.ks _ hx
    injection e with _ e
    subst e
    exact List.mem_map.2 ⟨i, (s.mem_keysN i).2 ⟨hi, hW⟩, rfl⟩
theorem DkIn.sorted (h : DkIn w base g s lb cp mb f k D) {ss : List Int} (hp : ss.Perm (intKeys D)) : ss.mergeSort leI = s.keysI ∧ ss.length = s.keysI.length := by
  have hn : s.keysI.Nodup := by
    refine List.pairwise_map.2 (s.keysN_rising.imp ?_)
    intro a b hab e
    have : (a : Int) = (b : Int) := e
    omega
  obtain ⟨es, hD, hpw, _⟩ := h.mp.entries keyed
  obtain ⟨es', hD', hko⟩ := h.mp.keysOf
  obtain rfl : es = es' := by rw [hD] at hD'; simpa using hD'
  have h1 : s.keysI.Perm (intKeys D) := by
    rw [hD]
    refine perm_intKeys hpw (fun p hp => ?_) hn (fun x => ?_)
    · obtain ⟨v, hv⟩ := hko p hp
      obtain ⟨x, _, hx, _⟩ := Maps.keyOf_i64 Try.underlying3 hv
      exact ⟨x, hx⟩
    · rw [← hD]; exact h.has_iff x
  have h2 : ss.Perm s.keysI := hp.trans h1.symm
  refine ⟨(mergeSort_of_perm_i h2).trans (List.mergeSort_of_pairwise (List.pairwise_map.2 (s.keysN_rising.imp ?_))), h2.length_eq⟩
  intro a b hab
  show decide ((a : Int) ≤ (b : Int)) = true
  exact decide_eq_true (by omega)
set_option maxHeartbeats 1000000 in
theorem keys_calls (m : Nat) (W : World) : Calls Try.prog 46 #[.map (some m)] W fun e w' => e = .returned (.func (.func 58) #[] #[.pointer (some ⟨W.heap.size, 0, none⟩)]) ∧ w' = W.alloc (.cells #[.map (some m)] 87) :=
  (callsIn_wide (n := 5)).1 (AnyZI.keys_in Try.keysA Fence.wide 5 trivial rfl (some m) W)
set_option maxHeartbeats 1000000 in
theorem sorted_calls (h : DkIn w base g s lb cp mb f k D) (hc : s.c < 1073741824) :
    Calls Try.prog 45 #[.func (.func 58) #[] #[.pointer (some ⟨w.heap.size, 0, none⟩)]] (w.alloc (.cells #[.map (some mb)] 87)) fun e w' => ∃ v, e = .returned v ∧ Kd.R (Kd.int .i64) 3 w' w.heap.size (fun _ => True) v s.keysI ∧ Below w.heap.size w w' := by
  have hown := h.mp
  have hbl := hown.lt
  have hsz : Maps.size D ≤ k := hown.size_le
  have hk := h.kc
  have hmax : Maps.size D ≤ maxLen := by unfold maxLen; omega
  have hbytes : Maps.size D * 8 ≤ 140737488355328 := by omega
  have hseq : SeqGives Fence.wide 2 Try.prog 58 #[.pointer (some ⟨w.heap.size, 0, none⟩)] encZ (fun ss => ss.Perm (intKeys D)) (Maps.size D) (w.alloc (.cells #[.map (some mb)] 87)) :=
    AnyZI.keys_gives (ρ := Try.keysA_ren) { Try.keysA with } Fence.wide _ trivial rfl (by omega) w.heap.size mb k D _ (by simp) (by simp) (by
      obtain ⟨es, clock, hb, Ft, hs, hD⟩ := hown
      exact ⟨es, clock, (Below.heap_alloc _ _ mb hbl).trans hb, Ft, hs, hD⟩)
  have cS := AnyZI.sorted_in Try.sortedA Fence.wide 5 trivial trivial trivial trivial rfl (by omega) (Try.sortsA _) (enters_of Try.func57 (by kernel_rfl) rfl) 58 #[.pointer (some ⟨w.heap.size, 0, none⟩)] trivial (enters_of Try.func58 (by kernel_rfl) rfl) _ _ hmax hbytes _ hseq
  change CallsIn _ _ Try.prog 45 _ _ _ at cS
  refine ((callsIn_wide (n := _)).1 cS).mono ?_
  rintro e w' ⟨v, ss, rfl, hS, hrow, hnil, hb⟩
  obtain ⟨e1, e2⟩ := h.sorted hS
  refine ⟨v, rfl, ?_, ((Below.refl _ w).alloc (Nat.le_refl _) _).trans (hb.mono (by simp))⟩
  have hrow' : w'.ownsRow w.heap.size 3 1 v s.keysI.length (encs (Value.int .i64) s.keysI) := by
    have h0 : w'.ownsRow w.heap.size 3 1 v ss.length _ := ownsRow_base_a hrow (by simp)
    rw [e2] at h0
    have e1' : ss.mergeSort (fun x y => decide (x ≤ y)) = s.keysI := e1
    rw [e1'] at h0
    exact h0
  exact Kd.R_of_own hrow' (fun _ _ => trivial)
end
end Go.Proofs.Ytddnhcnkjcdfgaa.M

namespace Go.Proofs.Ytddnhcnkjcdfgaa.M
open Go.RowKit Go.Maps Go.Proofs.YtddnhcnkjcdfgaaW.PrintWords Go.Proofs.YtddnhcnkjcdfgaaW.PrintLast Go.Proofs.YtddnhcnkjcdfgaaW.PrintMore
open Go.ChangeMaps (setBlock)
attribute [local go_sem] max2_int min2_int max_two min_two
set_option linter.unusedVariables false
set_option linter.unusedSimpArgs false
def crashL (s : DS) (fs : List Int) : Nat → List (List Int)
  | 0 => s.L
  | j + 1 => if 1 ≤ fs.getD j 0 then (crashL s fs j).set (s.keysN.getD j 0) ((s.W (s.keysN.getD j 0)).getD ((min (fs.getD j 0) ((s.W (s.keysN.getD j 0)).length : Int)).toNat - 1) []) else crashL s fs j
def DS.crash (s : DS) (fs : List Int) : DS := ⟨s.n, crashL s fs (min s.keysN.length fs.length), fun _ => [], 0, s.r, s.wr, s.fl⟩
def DS.half (s : DS) (fs : List Int) (j : Nat) : DS := ⟨s.n, crashL s fs j, s.W, s.c, s.r, s.wr, s.fl⟩
theorem add0 (b j : Nat) : (⟨b, 0, none⟩ : Addr).add j = ⟨b, j, none⟩ := by simp [Addr.add]; intro h; omega
theorem key_at (s : DS) (j : Nat) (hj : j < s.keysN.length) : s.keysN.getD j 0 < s.n ∧ s.W (s.keysN.getD j 0) ≠ [] ∧ rd s.keysI (j : Int) = ((s.keysN.getD j 0 : Nat) : Int) := by
  have h1 : s.keysN.getD j 0 = s.keysN[j] := by rw [List.getD_eq_getElem?_getD, List.getElem?_eq_getElem hj]; rfl
  have h2 := (s.mem_keysN (s.keysN[j])).1 (List.getElem_mem hj)
  rw [h1]
  refine ⟨h2.1, h2.2, ?_⟩
  unfold rd DS.keysI
  rw [Int.toNat_natCast, List.getD_eq_getElem?_getD, List.getElem?_map, List.getElem?_eq_getElem hj]
  rfl
set_option maxHeartbeats 1000000 in
set_option maxRecDepth 100000 in
theorem crash_in (g : Nat) (w : World) (base lb cp mb k : Nat) (f : Nat → Value) (D : DataW Value) (s : DS) (h : DkIn w base g s lb cp mb f k D) (hc : s.c < 1073741824) (A1 : Option Addr) (c1 : Nat) (fs : List Int) (hfs : ∀ W, Chg (fun x => x = lb) w W → (Kd.int .i64).C W A1 fs.length fs) (hne : ∀ ad, A1 = some ad → 0 < fs.length → ad.block ≠ lb) :
    Calls Try.prog 30 #[.pointer (some ⟨g, 0, none⟩), .slice A1 fs.length c1] w fun e w' => (∃ v, e = .returned v) ∧ DkIn w' base g (s.crash fs) lb cp mb (fun _ => .slice none 0 0) 0 (.map []) ∧ Chg (fun x => x = lb ∨ x = mb) w w' := by
  have hn2 := h.n2
  have hnm := h.nm
  have hKl := s.keysN_len
  have hKI : s.keysI.length = s.keysN.length := List.length_map _
  have hg1 : w.cell? ⟨g, 1, none⟩ = some (.map (some mb)) := blk_cell h.hd 1
  have HSO := Aside0.mk (sorted_calls h hc)
  have HK := Aside0.mk (keys_calls mb w)
  have HF := Aside0.mk hfs
  have HNE := Aside0.mk hne
  have H0 := Aside0.mk h
  have hlb : lb < w.heap.size := (h.la.typed rfl).2.1
  clear h hfs hne
  generalize hfl : fs.length = fl at *
  have HFL := Aside0.mk hfl
  clear hfl
  go_enter Try.func30, Try.ntmps30
  go_wp2_with (first
    | (go_at_call 46; (with_reducible refine HK.out.mono ?_); rintro e w1 ⟨rfl, rfl⟩)
    | (go_at_call 45; (with_reducible refine HSO.out.mono ?_); rintro e w2 ⟨v, rfl, hr, hb⟩; obtain ⟨Av, cv, ev⟩ := Kd.R_slice hr; subst ev; have HR9 := Aside0.mk hr; have HX0 := Aside0.mk hb; clear hr hb))
  have HR0 := Aside0.mk (show Kd.R (Kd.int .i64) 3 w2 w.heap.size (fun x => w.heap.size ≤ x) _ _ from Kd.R_of_own (Kd.own_of_R HR9.out) (fun k hk => Kd.R_base HR9.out k hk))
  clear HR9
  rw [hKI] at HR0
  try rw [hKI]
  generalize hm : s.keysN.length = m at *
  have HM := Aside0.mk hm
  have HKI := Aside0.mk hKI
  clear hm hKI
  clear hg1
  go_loopg [14] m (fun kq v14 wr => ∃ j : Nat, v14 = .int .i64 j ∧ Aside0 (j + kq = m) ∧ Aside0 (j ≤ fl) ∧ Aside0 (DkIn wr base g (s.half fs j) lb cp mb f k D) ∧ Aside0 (Chg (fun x => x = lb) w wr) ∧ Aside0 (Kd.R (Kd.int .i64) 3 wr w.heap.size (fun x => w.heap.size ≤ x) (.slice Av m cv) s.keysI))
  case atStart => exact ⟨0, rfl, ⟨Nat.zero_add _⟩, ⟨Nat.zero_le _⟩, ⟨H0.out.chg (G := fun _ => False) (Chg.of_below HX0.out) (fun _ _ => id)⟩, ⟨Chg.of_below HX0.out⟩, HR0⟩
  case round =>
    clear HR0 HX0
    obtain ⟨j, rfl, HJ, HJF, HD, HX, HR⟩ := hrel
    have hKw := HR.out
    by_cases hj : j < m
    · obtain ⟨hi, hW, hki⟩ := key_at s j (HM.out.symm ▸ hj)
      obtain ⟨bv, cv', ev, hbv, _, _⟩ := Kd.R_form HR.out (by rw [HKI.out]; omega)
      injection ev with ev el ec
      clear el ec
      subst ev
      obtain ⟨adv, eav, hkc⟩ := Kd.at_int (Kd.R_reads' HR.out).2.2 (j : Int) (by omega) (by rw [HKI.out]; omega)
      obtain rfl := Option.some.inj eav
      rw [hki, Int.toNat_natCast] at hkc
      generalize hgi : s.keysN.getD j 0 = i at hi hW hkc
      have HGI := Aside0.mk hgi
      clear hgi hki
      have hkc' : wr.cell? ⟨bv, j, none⟩ = some (.int .i64 (i : Int)) := by rw [add0] at hkc; exact hkc
      clear hkc hKw
      have hjb : decide (j < m) = true := decide_eq_true hj
      have hjt : (j < m) = True := eq_true hj
      have HJ2 := Aside0.mk hj
      clear hj
      by_cases hjf : j = fl
      · have HJE := Aside0.mk hjf
        have hjfb : ((j : Int) == (fl : Int)) = true := beq_iff_eq.mpr (by omega)
        have hjfd : (j == fl) = true := beq_iff_eq.mpr hjf
        clear hjf
        have hg1 : wr.cell? ⟨g, 1, none⟩ = some (.map (some mb)) := blk_cell HD.out.hd 1
        obtain ⟨ck, hclr⟩ := run_clear (by obtain ⟨es, ck, hb, _⟩ := HD.out.mp; exact ⟨es, ck, hb⟩) 0
        have HE := Aside0.mk (HD.out.clear ck)
        trace "BREAK"
        go_wp2
        refine bodyPost_end (results_none rfl _ _ _) rfl ?_
        refine ⟨⟨_, rfl⟩, ?_, (HX.out.mono (fun x h => .inl h)).trans HE.out.2 (fun x h => .inl (.inr h))⟩
        have h1 := HE.out.1
        unfold DS.crash
        rw [show min s.keysN.length fs.length = j from by have := HM.out; have := HFL.out; have := HJE.out; have := HJ2.out; omega]
        exact h1
      · have hjfb : ((j : Int) == (fl : Int)) = false := beq_eq_false_iff_ne.mpr (by omega)
        have hjfd : (j == fl) = false := beq_eq_false_iff_ne.mpr hjf
        have HJE := Aside0.mk hjf
        clear hjf
        have hjl : j < fl := by have := HJE.out; have := HJF.out; omega
        have hjlt : (j < fl) = True := eq_true hjl
        obtain ⟨ad, ead, hfc⟩ := Kd.at_int (HF.out wr HX.out) (j : Int) (by omega) (by omega)
        subst ead
        rw [Int.toNat_natCast] at hfc
        have hg1 : wr.cell? ⟨g, 1, none⟩ = some (.map (some mb)) := blk_cell HD.out.hd 1
        have hlk0 := HD.out.look i hi
        have hWl : 0 < (s.W i).length := List.length_pos_iff.2 hW
        have hrow := HD.out.rows i hi
        have hWc : (s.W i).length ≤ 9223372036854775807 := by
          obtain ⟨A7, c7, e7⟩ := Kd.R_slice hrow
          exact (Kd.R_reads' (e7 ▸ hrow)).2.2.2.1
        obtain ⟨b7, c7, e7, _⟩ := Kd.R_form hrow hWl
        have hrg7 : b7 ≠ lb := (HD.out.rowg (b := b7) hi (by rw [e7]; rfl)).2.2
        rw [e7] at hrow hlk0
        have HRW := Aside0.mk hrow
        have hWd : (s.half fs j).W i = s.W i := rfl
        rw [hWd] at hlk0 e7
        clear hrow hWd e7
        obtain ⟨fv, hfv0⟩ : ∃ x, x = rd fs (j : Int) := ⟨_, rfl⟩
        rw [← hfv0] at hfc
        have HFV := Aside0.mk (show fs.getD j 0 = fv from by rw [hfv0]; unfold rd; rw [Int.toNat_natCast])
        have HWI := Aside0.mk (And.intro hi hW)
        obtain ⟨ln, hln⟩ : ∃ x, x = (s.W i).length := ⟨_, rfl⟩
        rw [← hln] at hlk0 hWl hWc
        have HLN := Aside0.mk hln
        clear hfv0 hln hi hW
        by_cases hfv : 1 ≤ fv
        · have hfvb : decide (1 ≤ fv) = true := decide_eq_true hfv
          go_upto_region 6 with (fail)
          obtain ⟨q, hq1, hq2, hq3⟩ : ∃ q : Nat, (if (ln : Int) < fv then (ln : Int) else fv) = (q : Int) + 1 ∧ q < ln ∧ q = (min fv (ln : Int)).toNat - 1 := by
            refine ⟨(min fv (ln : Int)).toNat - 1, ?_, ?_, rfl⟩
            · split <;> omega
            · omega
          have HQ := Aside0.mk hq3
          clear hq3
          have hWi : (s.W i).getD q [] = (s.W i).getD q [] := rfl
          have hS7 := sec_at HRW.out q (by have := HLN.out; have h_ : (s.half fs j).W i = s.W i := rfl; rw [h_]; omega)
          have h_ : (s.half fs j).W i = s.W i := rfl
          rw [h_] at hS7
          clear h_ hWi
          obtain ⟨hSr, hSl, _⟩ := hS7
          obtain ⟨bC, hbC⟩ : ∃ x, x = (s.W i).getD q [] := ⟨_, rfl⟩
          have HbC := Aside0.mk hbC
          rw [← hbC] at hSr hSl
          have HSl := Aside0.mk hSl
          have hth : wr.there lb (i * 512) 512 := (sec_at HD.out.la i HWI.out.1).2.2
          have hlbg : lb ≠ g := HD.out.lbg
          have hfa : (ad.add j).block ≠ lb := by
            have h_ := HNE.out ad rfl (by omega)
            have e_ : (ad.add j).block = ad.block := by unfold Addr.add; split <;> rfl
            rw [e_]; exact h_
          have hg0 : wr.cell? ⟨g, 0, none⟩ = some (.slice (some ⟨lb, 0, none⟩) s.n cp) := blk_cell HD.out.hd 0
          have hi0 : (0 : Int) ≤ (i : Int) := by omega
          have hi1 : (i : Int) < (s.n : Int) := by have := HWI.out.1; omega
          have hil : (i < s.n) = True := eq_true HWI.out.1
          have hcl : (nums .u8 bC).length = 512 := by rw [nums_length, hSl]
          have hnb := nums_one bC
          have hu91 := Try.underlying91
          have hi91 : (Try.prog.info? 91).map (·.size) = some (nums .u8 bC).length := by rw [hcl]; exact size91
          generalize hcb : nums .u8 bC = cb at *
          have HCB := Aside0.mk hcb
          clear hcb hbC hSl
          have hif := hq1
          have hqw : IntKind.i64.wrap ((q : Int) + 1 - 1) = (q : Int) := by rw [show (q : Int) + 1 - 1 = (q : Int) by omega]; exact IntWalk.i64_in _ (by omega)
          have hqw2 : IntKind.i64.wrap (q : Int) = (q : Int) := IntWalk.i64_in _ (by omega)
          have hqt : (q : Int).toNat = q := rfl
          have hq0 : (0 : Int) ≤ (q : Int) := by omega
          have hql : (q : Int) < (ln : Int) := by omega
          have hix : ∀ W : World, (Instr.indexAt 86 (.slice (some ⟨b7, 0, none⟩) ln c7) (.int .i64 (q : Int))).run Try.prog W = .ok (.pointer (some ⟨b7, q * 512, none⟩)) W := fun W => by go_simp <;> (try (intro h; exact absurd h (by omega)))
          clear hq1
          go_region_held3 (fun W => W.cell? ⟨g, 0, none⟩ = some (.slice (some ⟨lb, 0, none⟩) s.n cp) ∧ W.cell? (ad.add j) = some (.int .i64 fv) ∧ W.rangeAt b7 (q * 512) cb ∧ W.there lb (i * 512) 512) (first | assumption | (simp only [World.cell?_drew]; exact ⟨hg0, hfc, hSr, hth⟩) | exact ⟨(World.cell?_setCells_out lb cb _ _ _ (fun e => absurd e.symm hlbg)).trans hg0, (World.cell?_setCells_out lb cb _ _ _ (fun e => absurd e hfa)).trans hfc, World.rangeAt_setCells_apart (w := wr.drew) hSr lb _ cb (.inl hrg7), World.there_setCells (w := wr.drew) hth lb _ cb⟩ | fail) (fail)
          have HP := (HD.out.chg (G := fun _ => False) (w' := wr.drew) ⟨rfl, rfl, rfl, Nat.le_refl _, fun _ _ _ => rfl⟩ (fun _ _ => id)).putL i HWI.out.1 bC HSl.out
          rw [HCB.out] at HP
          have HX6 := Aside0.mk ((HX.out.trans (b := wr) (c := wr.drew) (G := fun _ => False) ⟨rfl, rfl, rfl, Nat.le_refl _, fun _ _ _ => rfl⟩ (fun _ h => h.elim)).trans (Chg.of_grown (F := fun x => x = lb) HP.2 (fun x hx => (Option.some.inj hx).symm)) (fun x hx => .inl hx))
          have HR6 := Aside0.mk (show Kd.R (Kd.int .i64) 3 (wr.drew.setCells lb (i * 512) cb) w.heap.size (fun x => w.heap.size ≤ x) (.slice (some ⟨bv, 0, none⟩) m cv) s.keysI from Kd.R_step (Kd.R_drew HR.out) (fun k_ hk hlt => HP.2.block k_ hlt (by intro e; have := Option.some.inj e; omega)))
          have HD6 := Aside0.mk HP.1
          clear HP hSr hth hg0 hix hg1 hlk0 hfc hkc'
          generalize wr.drew.setCells lb (i * 512) cb = w5 at HR6 HD6 HX6 ⊢
          go_wp2
          go_roundg (gk - 1)
          case measure => have := HJ.out; have := HJ2.out; omega
          case rel => exact ⟨j + 1, (by have hi_ := HJ2.out; first | rfl | (simp; done) | (rw [show wrap64 ((j : Int) + 1) = (j : Int) + 1 from by unfold wrap64; omega]; rfl)), ⟨by have := HJ.out; have := HJ2.out; omega⟩, ⟨by omega⟩, ⟨by unfold DS.half crashL; rw [if_pos (by rw [HFV.out]; omega), HFV.out, HGI.out, ← HLN.out, ← HQ.out, ← HbC.out]; exact HD6.out⟩, HX6, HR6⟩
        · have hfvb : decide (1 ≤ fv) = false := decide_eq_false hfv
          go_wp2
          go_roundg (gk - 1)
          case measure => have := HJ.out; have := HJ2.out; omega
          case rel => exact ⟨j + 1, (by have hi_ := HJ2.out; first | rfl | (simp; done) | (rw [show wrap64 ((j : Int) + 1) = (j : Int) + 1 from by unfold wrap64; omega]; rfl)), ⟨by have := HJ.out; have := HJ2.out; omega⟩, ⟨by omega⟩, ⟨by unfold DS.half crashL; rw [if_neg (by rw [HFV.out]; omega)]; exact HD.out⟩, HX, HR⟩
    · have hjb : decide (j < m) = false := decide_eq_false hj
      have hjt : (j < m) = False := eq_false hj
      have HJ3 := Aside0.mk hj
      clear hj
      have hg1 : wr.cell? ⟨g, 1, none⟩ = some (.map (some mb)) := blk_cell HD.out.hd 1
      obtain ⟨ck, hclr⟩ := run_clear (by obtain ⟨es, ck, hb, _⟩ := HD.out.mp; exact ⟨es, ck, hb⟩) 0
      have HE := Aside0.mk (HD.out.clear ck)
      trace "END"
      go_wp2
      refine bodyPost_end (results_none rfl _ _ _) rfl ?_
      refine ⟨⟨_, rfl⟩, ?_, (HX.out.mono (fun x h => .inl h)).trans HE.out.2 (fun x h => .inl (.inr h))⟩
      have h1 := HE.out.1
      unfold DS.crash
      rw [show min s.keysN.length fs.length = j from by have := HM.out; have := HFL.out; have := HJ3.out; have := HJ.out; have := HJF.out; omega]
      exact h1
end Go.Proofs.Ytddnhcnkjcdfgaa.M

namespace Go.Proofs.Ytddnhcnkjcdfgaa.M
open Go.RowKit Go.Maps Go.Proofs.YtddnhcnkjcdfgaaW.PrintWords Go.Proofs.YtddnhcnkjcdfgaaW.PrintLast Go.Proofs.YtddnhcnkjcdfgaaW.PrintMore
open Go.Proofs.Ytddnhcnkjcdfgaa.P
attribute [local go_sem] max2_int min2_int max_two min_two max_three min_three max_four min_four
set_option linter.unusedVariables false
set_option linter.unusedSimpArgs false
theorem crash_at (g : Nat) (w : World) (base : Nat) (F : Nat → Prop) (s : DS) (h : DkAt w base g F s) (hc : s.c < 1073741824) (A1 : Option Addr) (c1 : Nat) (fs : List Int) (hfs : ∀ W, Chg F w W → (Kd.int .i64).C W A1 fs.length fs) (hne : ∀ ad, A1 = some ad → 0 < fs.length → ¬ F ad.block) :
    Calls Try.prog 30 #[.pointer (some ⟨g, 0, none⟩), .slice A1 fs.length c1] w fun e w' => (∃ v, e = .returned v) ∧ ∃ F', DkAt w' base g F' (s.crash fs) ∧ (∀ b, F' b → F b) ∧ Chg F w w' := by
  obtain ⟨lb, cp, mb, f, k, D, h1, h2⟩ := h
  refine (crash_in g w base lb cp mb k f D s h1 hc A1 c1 fs (fun W hW => hfs W (hW.mono (fun x hx => (h2 x).2 (.inr (.inl hx))))) (fun ad e hp hl => hne ad e hp ((h2 _).2 (.inr (.inl hl))))).mono ?_
  rintro e w' ⟨he, hd, hch⟩
  refine ⟨he, _, ⟨lb, cp, mb, _, 0, _, hd, fun b => Iff.rfl⟩, ?_, hch.mono (fun x hx => (h2 x).2 (by rcases hx with h | h; exact .inr (.inl h); exact .inr (.inr (.inl h))))⟩
  rintro b (h | h | h | ⟨i, hi, h⟩)
  · exact (h2 b).2 (.inl h)
  · exact (h2 b).2 (.inr (.inl h))
  · exact (h2 b).2 (.inr (.inr (.inl h)))
  · cases h
structure St (s : DS) (m i : Nat) (B : List Int) (c : Nat) : Prop where
  n : s.n = m
  W : s.W i = []
  L : s.L.getD i [] = B
  c : s.c ≤ c
theorem St.put {s : DS} {m i c : Nat} {B : List Int} (h : St s m i B c) (j : Nat) (b : List Int) (hj : j ≠ i) : St (s.put j b) m i B (c + 1) :=
  ⟨h.n, by show (if i = j then s.W j ++ [b] else s.W i) = []; rw [if_neg (Ne.symm hj)]; exact h.W, h.L, Nat.succ_le_succ h.c⟩
theorem St.mono {s : DS} {m i c c' : Nat} {B : List Int} (h : St s m i B c) (hc : c ≤ c') : St s m i B c' := ⟨h.n, h.W, h.L, Nat.le_trans h.c hc⟩
theorem St.cur {s : DS} {m i c : Nat} {B : List Int} (h : St s m i B c) : s.cur i = B := by rw [cur_nil h.W, h.L]
theorem St.crash {s : DS} {m i c : Nat} {B : List Int} (h : St s m i B c) (fs : List Int) : St (s.crash fs) m i B 0 := by
  have key : ∀ j, j ≤ s.keysN.length → (crashL s fs j).getD i [] = s.L.getD i [] := by
    intro j
    induction j with
    | zero => intro _; rfl
    | succ j ih =>
      intro hj
      unfold crashL
      split
      · have hk := (key_at s j (by omega)).2.1
        have hne : s.keysN.getD j 0 ≠ i := fun e => hk (by rw [e]; exact h.W)
        rw [List.getD_eq_getElem?_getD, List.getElem?_set_ne hne, ← List.getD_eq_getElem?_getD]
        exact ih (by omega)
      · exact ih (by omega)
  exact ⟨h.n, rfl, by show (crashL s fs _).getD i [] = B; rw [key _ (Nat.min_le_left _ _), h.L], Nat.le_refl _⟩
theorem St.reads {s : DS} {m i c : Nat} {B : List Int} (h : St s m i B c) : St s.reads m i B c := ⟨h.n, h.W, h.L, h.c⟩
end Go.Proofs.Ytddnhcnkjcdfgaa.M

namespace Go.Proofs.Ytddnhcnkjcdfgaa.M
open Go.RowKit Go.Maps Go.Proofs.YtddnhcnkjcdfgaaW.PrintWords Go.Proofs.YtddnhcnkjcdfgaaW.PrintLast Go.Proofs.YtddnhcnkjcdfgaaW.PrintMore
set_option linter.unusedVariables false
set_option linter.unusedSimpArgs false
theorem DkIn.move {w w' : World} {base g lb cp mb k : Nat} {s : DS} {f : Nat → Value} {D : DataW Value} (h : DkIn w base g s lb cp mb f k D) (hm : ∀ b, Fp g lb mb f s.n b → w'.heap[b]? = w.heap[b]?) : DkIn w' base g s lb cp mb f k D := by
  refine ⟨(hm g (.inl rfl)).trans h.hd, h.la.step (fun b hb _ => hm b (.inr (.inl (Option.some.inj hb).symm))), ?_, h.kc, h.at_, h.ks, fun i hi => (h.rows i hi).step (fun b hb _ => hm b (.inr (.inr (.inr ⟨i, hi, hb⟩)))), h.wl, h.sep, h.sepl, h.gb, h.mbb, h.n2, h.nm⟩
  obtain ⟨es, ck, hb, r⟩ := h.mp
  exact ⟨es, ck, (hm mb (.inr (.inr (.inl rfl)))).trans hb, r⟩
def dkT (g : Nat) (s : DS) : Th where
  P := fun w F => ∃ base, DkAt w base g F s
  foot := by
    rintro w F ⟨base, h⟩ b hb
    exact (h.foot b hb).2
  step := by
    rintro w w' F ⟨base, lb, cp, mb, f, k, D, h1, h2⟩ h
    exact ⟨base, lb, cp, mb, f, k, D, h1.move (fun b hb => h b ((h2 b).2 hb)), h2⟩
section
variable {w0 w : World} {L : List Th} {g : Nat} {s : DS}
theorem Sep.dk_lasts (h : Sep w0 w (dkT g s :: L)) : s.L.length = s.n ∧ ∀ x ∈ s.L, x.length = 512 := by
  obtain ⟨F, ⟨base, h1⟩, _⟩ := h.get
  exact h1.lasts
theorem Sep.read (h : Sep w0 w (dkT g s :: L)) (i : Nat) (hi : i < s.n) :
    Calls Try.prog 25 #[.pointer (some ⟨g, 0, none⟩), .int .i64 (i : Int)] w fun e w' => ∃ v, e = .returned (.tuple #[v, .int .i64 0]) ∧ Sep w0 w' (ownT (Kd.int .u8) 5 v (s.cur i) :: dkT g s.reads :: L) := by
  obtain ⟨F, ⟨base, h1⟩, h2, h3⟩ := h.open_
  refine (read_at g i w base F s h1 hi).mono ?_
  rintro e w' ⟨v, he, hr, hd, hc⟩
  refine ⟨v, he, h3 [ownT (Kd.int .u8) 5 v (s.cur i), dkT g s.reads] w' ⟨fun k => w.heap.size ≤ k ∧ k < w'.heap.size, ⟨⟨w.heap.size, Kd.R_mono (Kd.R_bound hr) (fun k hk => ⟨hk.2.1, hk.2.2.1⟩)⟩, fun b hb => hb.2⟩, fun b hb => .inr hb.1, F, ⟨base, hd⟩, fun b hb => ⟨.inl hb, fun hx => Nat.not_lt.2 hx.1 (h1.foot b hb).2⟩, trivial⟩ hc⟩
theorem Sep.image (h : Sep w0 w (dkT g s :: L)) :
    Calls Try.prog 26 #[.pointer (some ⟨g, 0, none⟩)] w fun e w' => ∃ go c, e = .returned (.slice (some ⟨go, 0, none⟩) s.n c) ∧ Sep w0 w' (rowsT KB 28 (.slice (some ⟨go, 0, none⟩) s.n c) s.L :: dkT g s :: L) := by
  obtain ⟨F, ⟨base, h1⟩, h2, h3⟩ := h.open_
  refine (image_at g w base F s h1).mono ?_
  rintro e w' ⟨go, c, he, hr, hb⟩
  exact ⟨go, c, he, h.push_rows hr hb⟩
theorem Sep.write_own (v : Value) (b : List Int) (h : Sep w0 w (ownT (Kd.int .u8) 5 v b :: dkT g s :: L)) (i : Nat) (hi : i < s.n) (hc : s.c < 1073741824) (hb : b.length = 512) :
    Calls Try.prog 16 #[.pointer (some ⟨g, 0, none⟩), .int .i64 (i : Int), v] w fun e w' => e = .returned (.int .i64 0) ∧ Sep w0 w' (ownT (Kd.int .u8) 5 v b :: dkT g (s.put i b) :: L) := by
  obtain ⟨base0, ok, hr⟩ := h.own
  obtain ⟨A, c, rfl⟩ := Kd.R_slice hr
  rw [hb]
  have hC := (Kd.R_reads' hr).2.2
  rw [hb] at hC
  obtain ⟨G, ⟨hG1, hG2⟩, hG3, hG4⟩ := h.open_
  obtain ⟨U, ⟨F0, h1, h2, F, ⟨base, h4⟩, h5, _⟩, h6, h7⟩ := Sep.split (M := [ownT (Kd.int .u8) 5 (.slice A b.length c) b, dkT g s]) h
  refine (write_at g i A c b w base F s h4 hi hC (fun ad e hF => ?_) hc).mono ?_
  · obtain ⟨⟨b2, hr2⟩, _⟩ := h1
    obtain ⟨g2, c2, e2, _⟩ := Kd.R_form hr2 (by omega)
    rw [e] at e2
    injection e2 with e2
    cases e2
    exact (h5 _ hF).2 (hr2.1 _ (by rw [e]; rfl))
  · rintro e w' ⟨he, F', hd, hF, hch⟩
    rw [← hb]
    refine ⟨he, h7 [ownT (Kd.int .u8) 5 (.slice A b.length c) b, dkT g (s.put i b)] w' ⟨F0, Th.step _ h1 (fun x hx => hch.block x (Th.foot _ h1 x hx) (fun hF => (h5 x hF).2 hx)), fun x hx => .inl (h2 x hx), F', ⟨base, hd⟩, fun x hx => ?_, trivial⟩ (hch.mono (fun x hx => (h5 x hx).1))⟩
    rcases hF x hx with hx1 | hx1
    · exact ⟨.inl (h5 x hx1).1, (h5 x hx1).2⟩
    · exact ⟨.inr hx1, fun hx2 => Nat.not_lt.2 hx1 (Th.foot _ h1 x hx2)⟩
theorem Sep.crash_own (fs : List Int) (v : Value) (h : Sep w0 w (ownT (Kd.int .i64) 3 v fs :: dkT g s :: L)) (hc : s.c < 1073741824) :
    Calls Try.prog 30 #[.pointer (some ⟨g, 0, none⟩), v] w fun e w' => (∃ v, e = .returned v) ∧ Sep w0 w' (ownT (Kd.int .i64) 3 v fs :: dkT g (s.crash fs) :: L) := by
  obtain ⟨base0, ok, hr⟩ := h.own
  obtain ⟨A, c, rfl⟩ := Kd.R_slice hr
  obtain ⟨U, ⟨F0, h1, h2, F, ⟨base, h4⟩, h5, _⟩, h6, h7⟩ := Sep.split (M := [ownT (Kd.int .i64) 3 (.slice A fs.length c) fs, dkT g s]) h
  obtain ⟨⟨b2, hr2⟩, hlt⟩ := h1
  refine (crash_at g w base F s h4 hc A c fs (fun W hW => (Kd.R_reads' (Kd.R_step hr2 (fun k hk hlt => hW.block k hlt (fun hF => (h5 k hF).2 hk)))).2.2) (fun ad e hp hF => ?_)).mono ?_
  · obtain ⟨g2, c2, e2, _⟩ := Kd.R_form hr2 hp
    rw [e] at e2
    injection e2 with e2
    cases e2
    exact (h5 _ hF).2 (hr2.1 _ (by rw [e]; rfl))
  · rintro e w' ⟨he, F', hd, hF, hch⟩
    exact ⟨he, h7 [ownT (Kd.int .i64) 3 (.slice A fs.length c) fs, dkT g (s.crash fs)] w' ⟨F0, Th.step (ownT (Kd.int .i64) 3 (.slice A fs.length c) fs) ⟨⟨b2, hr2⟩, hlt⟩ (fun x hx => hch.block x (hlt x hx) (fun hF => (h5 x hF).2 hx)), fun x hx => .inl (h2 x hx), F', ⟨base, hd⟩, fun x hx => ⟨.inl (h5 x (hF x hx)).1, (h5 x (hF x hx)).2⟩, trivial⟩ (hch.mono (fun x hx => (h5 x hx).1))⟩
end
theorem Sep.new {w0 w : World} {L : List Th} (h : Sep w0 w L) (n : Nat) (h2 : 2 ≤ n) (hm : n ≤ 65536) :
    Calls Try.prog 21 #[.int .i64 (n : Int)] w fun e w' => ∃ g, e = .returned (.tuple #[.pointer (some ⟨g, 0, none⟩), .int .i64 0]) ∧ Sep w0 w' (dkT g (DS.fresh n (List.replicate n zeros)) :: L) := by
  refine (new_calls n w h2 hm).mono ?_
  rintro e w' ⟨g, F, he, hd, hb⟩
  exact ⟨g, he, h.push (t := dkT g _) hb (F := F) ⟨_, hd⟩ (fun b hb => (hd.foot b hb).1)⟩
end Go.Proofs.Ytddnhcnkjcdfgaa.M

namespace Go.Proofs.Ytddnhcnkjcdfgaa.M
open Go.RowKit Go.Maps Go.Proofs.YtddnhcnkjcdfgaaW.PrintWords Go.Proofs.YtddnhcnkjcdfgaaW.PrintLast Go.Proofs.YtddnhcnkjcdfgaaW.PrintMore
open Go.Proofs.Ytddnhcnkjcdfgaa.P
set_option linter.unusedVariables false
set_option linter.unusedSimpArgs false
def Two (w2 w' : World) (b1 g1 b2 g2 : Nat) (F1 F2 : Nat → Prop) (s1 s2 : DS) : Prop :=
  ∃ Fd Fe, DkAt w' b1 g1 Fd s1 ∧ DkAt w' b2 g2 Fe s2 ∧ (∀ x, Fd x → ¬ Fe x) ∧ (∀ x, Fd x → F1 x ∨ w2.heap.size ≤ x) ∧ (∀ x, Fe x → F2 x ∨ w2.heap.size ≤ x) ∧ Chg (fun x => F1 x ∨ F2 x) w2 w'
section
variable {w2 w' : World} {b1 g1 b2 g2 : Nat} {F1 F2 : Nat → Prop} {s1 s2 : DS}
theorem Two.swap (h : Two w2 w' b1 g1 b2 g2 F1 F2 s1 s2) : Two w2 w' b2 g2 b1 g1 F2 F1 s2 s1 := by
  obtain ⟨Fd, Fe, h1, h2, hd, e1, e2, hc⟩ := h
  exact ⟨Fe, Fd, h2, h1, fun x h h' => hd x h' h, e2, e1, hc.mono (fun x hx => hx.symm)⟩
theorem Two.chg (h : Two w2 w' b1 g1 b2 g2 F1 F2 s1 s2) : Chg (fun x => F1 x ∨ F2 x) w2 w' := by
  obtain ⟨_, _, _, _, _, _, _, hc⟩ := h
  exact hc
theorem Two.below {w'' : World} (h : Two w2 w' b1 g1 b2 g2 F1 F2 s1 s2) (hb : Below w'.heap.size w' w'') : Two w2 w'' b1 g1 b2 g2 F1 F2 s1 s2 := by
  obtain ⟨Fd, Fe, h1, h2, hd, e1, e2, hc⟩ := h
  exact ⟨Fd, Fe, h1.below hb, h2.below hb, hd, e1, e2, hc.trans (Chg.of_below (F := fun _ => False) hb) (fun _ h => h.elim)⟩
theorem Two.n (h : Two w2 w' b1 g1 b2 g2 F1 F2 s1 s2) : 2 ≤ s1.n ∧ s1.n ≤ 65536 := by
  obtain ⟨Fd, Fe, h1, _⟩ := h
  exact h1.n_le
theorem Two.lasts (h : Two w2 w' b1 g1 b2 g2 F1 F2 s1 s2) : s1.L.length = s1.n ∧ ∀ x ∈ s1.L, x.length = 512 := by
  obtain ⟨Fd, Fe, h1, _⟩ := h
  exact h1.lasts
theorem Two.crash {w : World} (h : Two w2 w' b1 g1 b2 g2 F1 F2 s1 s2) (hc : s1.c < 1073741824) (A1 : Option Addr) (c1 : Nat) (fs : List Int) (hC : (Kd.int .i64).C w A1 fs.length fs) (hb : Below w.heap.size w w') (hF : ∀ x, F1 x → w.heap.size ≤ x) (hw : w.heap.size ≤ w2.heap.size) :
    Calls Try.prog 30 #[.pointer (some ⟨g1, 0, none⟩), .slice A1 fs.length c1] w' fun e w'' => (∃ v, e = .returned v) ∧ Two w2 w'' b1 g1 b2 g2 F1 F2 (s1.crash fs) s2 ∧ Chg (fun x => F1 x ∨ w2.heap.size ≤ x) w' w'' := by
  obtain ⟨Fd, Fe, h1, h2, hd, e1, e2, hch⟩ := h
  have hge : ∀ x, Fd x → w.heap.size ≤ x := fun x hx => (e1 x hx).elim (hF x) (Nat.le_trans hw)
  refine (crash_at g1 w' b1 Fd s1 h1 hc A1 c1 fs (fun W hW => Kd.C_below hC (Chg.below hb hW (below_size hb) hge)) (fun ad e hp hf => by
    have h1_ := hge _ hf
    obtain ⟨ad2, e2, hcell⟩ := Kd.at_int hC 0 (by omega) (by omega)
    rw [e] at e2
    obtain rfl := Option.some.inj e2
    have h2_ := World.block_lt_of_cell? w _ hcell
    have e_ : (ad.add (0 : Int).toNat).block = ad.block := by unfold Addr.add; split <;> rfl
    rw [e_] at h2_
    omega)).mono ?_
  rintro e w'' ⟨he, F', hdk, hF', hx⟩
  exact ⟨he, ⟨F', Fe, hdk, h2.chg hx (fun x hx' hF => hd x hF hx'), fun x hx' => hd x (hF' x hx'), fun x hx' => e1 x (hF' x hx'), e2, hch.trans hx (fun x hx' => (e1 x hx').imp .inl id)⟩, hx.mono e1⟩
theorem Two.crash_own {base : Nat} {ok : Nat → Prop} (h : Two w2 w' b1 g1 b2 g2 F1 F2 s1 s2) (hc : s1.c < 1073741824) (A1 : Option Addr) (c1 : Nat) (fs : List Int) (hR : (Kd.int .i64).R 3 w' base ok (.slice A1 fs.length c1) fs) :
    Calls Try.prog 30 #[.pointer (some ⟨g1, 0, none⟩), .slice A1 fs.length c1] w' fun e w'' => (∃ v, e = .returned v) ∧ Two w2 w'' b1 g1 b2 g2 F1 F2 (s1.crash fs) s2 ∧ Chg (fun x => F1 x ∨ w2.heap.size ≤ x) w' w'' := by
  obtain ⟨Fd, Fe, h1, h2, hd, e1, e2, hch⟩ := h
  have hno : ∀ k, (Value.slice A1 fs.length c1).ownBlock = some k → ¬ Fd k := fun k hk => by
    obtain ⟨cs, hcs⟩ := Kd.R_typed hR k hk
    exact h1.typed hcs (by decide) (by decide)
  refine (crash_at g1 w' b1 Fd s1 h1 hc A1 c1 fs (fun W hW => (Kd.R_reads' (Kd.R_step (Kd.R_of_own (ok := fun k => (Value.slice A1 fs.length c1).ownBlock = some k) (Kd.own_of_R hR) (fun k hk => hk)) (fun k hk hlt => hW.block k hlt (hno k hk)))).2.2) (fun ad e hp hf => by
    obtain ⟨gg, cc, e2, _, _, _⟩ := Kd.R_form hR hp
    injection e2 with e2 _ _
    subst e2
    cases e
    exact hno gg rfl hf)).mono ?_
  rintro e w'' ⟨he, F', hdk, hF', hx⟩
  exact ⟨he, ⟨F', Fe, hdk, h2.chg hx (fun x hx' hF => hd x hF hx'), fun x hx' => hd x (hF' x hx'), fun x hx' => e1 x (hF' x hx'), e2, hch.trans hx (fun x hx' => (e1 x hx').imp .inl id)⟩, hx.mono e1⟩
theorem Two.read (h : Two w2 w' b1 g1 b2 g2 F1 F2 s1 s2) (i : Nat) (hi : i < s1.n) :
    Calls Try.prog 25 #[.pointer (some ⟨g1, 0, none⟩), .int .i64 (i : Int)] w' fun e w'' => ∃ v, e = .returned (.tuple #[v, .int .i64 0]) ∧ Kd.R (Kd.int .u8) 5 w'' w'.heap.size (fun _ => True) v (s1.cur i) ∧ Two w2 w'' b1 g1 b2 g2 F1 F2 s1.reads s2 ∧ Chg (fun x => F1 x ∨ w2.heap.size ≤ x) w' w'' := by
  obtain ⟨Fd, Fe, h1, h2, hd, e1, e2, hch⟩ := h
  refine (read_at g1 i w' b1 Fd s1 h1 hi).mono ?_
  rintro e w'' ⟨v, he, hr, hdk, hx⟩
  exact ⟨v, he, hr, ⟨Fd, Fe, hdk, h2.chg hx (fun x hx' hF => hd x hF hx'), hd, e1, e2, hch.trans hx (fun x hx' => (e1 x hx').imp .inl id)⟩, hx.mono e1⟩
theorem Two.image (h : Two w2 w' b1 g1 b2 g2 F1 F2 s1 s2) :
    Calls Try.prog 26 #[.pointer (some ⟨g1, 0, none⟩)] w' fun e w'' => ∃ go c, e = .returned (.slice (some ⟨go, 0, none⟩) s1.n c) ∧ Kd.S KB 28 w'' w'.heap.size (fun _ => True) (.slice (some ⟨go, 0, none⟩) s1.n c) s1.L ∧ Below w'.heap.size w' w'' := by
  obtain ⟨Fd, Fe, h1, h2, hd, e1, e2, hch⟩ := h
  exact image_at g1 w' b1 Fd s1 h1
end
end Go.Proofs.Ytddnhcnkjcdfgaa.M

namespace Go.Proofs.Ytddnhcnkjcdfgaa.P
open Go.RowKit Go.Proofs.YtddnhcnkjcdfgaaW.PrintWords Go.Proofs.YtddnhcnkjcdfgaaW.PrintLast Go.Proofs.YtddnhcnkjcdfgaaW.PrintMore
attribute [local go_sem] max2_int min2_int max_two min_two max_three min_three max_four min_four   -- for this text's walks alone
set_option linter.unusedVariables false
set_option linter.unusedSimpArgs false
end Go.Proofs.Ytddnhcnkjcdfgaa.P

namespace Go.Proofs.Ytddnhcnkjcdfgaa.M
open Go.RowKit Go.Maps Go.Proofs.YtddnhcnkjcdfgaaW.PrintWords Go.Proofs.YtddnhcnkjcdfgaaW.PrintLast Go.Proofs.YtddnhcnkjcdfgaaW.PrintMore
open Go.Proofs.Ytddnhcnkjcdfgaa.P
attribute [local go_sem] max2_int min2_int max_two min_two max_three min_three max_four min_four
set_option linter.unusedVariables false
set_option linter.unusedSimpArgs false
end Go.Proofs.Ytddnhcnkjcdfgaa.M

namespace Go.Proofs.Ytddnhcnkjcdfgaa.M
open Go.RowKit Go.Maps Go.Proofs.YtddnhcnkjcdfgaaW.PrintWords Go.Proofs.YtddnhcnkjcdfgaaW.PrintLast Go.Proofs.YtddnhcnkjcdfgaaW.PrintMore
open Go.Proofs.Ytddnhcnkjcdfgaa.P
set_option linter.unusedVariables false
theorem crashL_len (s : DS) (fs : List Int) : ∀ j, (crashL s fs j).length = s.L.length
  | 0 => rfl
  | j + 1 => by
    unfold crashL
    split
    · rw [List.length_set]; exact crashL_len s fs j
    · exact crashL_len s fs j
end Go.Proofs.Ytddnhcnkjcdfgaa.M

namespace Go.Proofs.Ytddnhcnkjcdfgaa.M
open Go.RowKit Go.Maps Go.Proofs.YtddnhcnkjcdfgaaW.PrintWords Go.Proofs.YtddnhcnkjcdfgaaW.PrintLast Go.Proofs.YtddnhcnkjcdfgaaW.PrintMore
open Go.Proofs.Ytddnhcnkjcdfgaa.P
set_option linter.unusedVariables false
set_option linter.unusedSimpArgs false
def skp (T i j : Nat) : Bool := decide (i % 5 = 4) || (decide (i % 3 = 2) && decide (j = T))
def gS (T j : Nat) (s : DS) : Nat → DS
  | 0 => s
  | i + 1 => if skp T i j then gS T j s i else (gS T j s i).put i (markL (i : Int) (j : Int))
def gH (T j : Nat) (h : List Int) : Nat → List Int
  | 0 => h
  | i + 1 => if skp T i j then gH T j h i else (gH T j h i).set i (j : Int)
def oS (n T : Nat) : Nat → DS
  | 0 => DS.fresh n (List.replicate n zeros)
  | j + 1 => gS T (j + 1) (oS n T j) n
def oH (n T : Nat) : Nat → List Int
  | 0 => List.replicate n 0
  | j + 1 => gH T (j + 1) (oH n T j) n
theorem gS_n (T j : Nat) (s : DS) : ∀ i, (gS T j s i).n = s.n
  | 0 => rfl
  | i + 1 => by unfold gS; split <;> first | exact gS_n T j s i | (show (gS T j s i).n = _; exact gS_n T j s i)
theorem gS_c (T j : Nat) (s : DS) : ∀ i, (gS T j s i).c ≤ s.c + i
  | 0 => Nat.le_refl _
  | i + 1 => by
    have ih := gS_c T j s i
    unfold gS
    split
    · omega
    · show (gS T j s i).c + 1 ≤ _
      omega
theorem gH_len (T j : Nat) (h : List Int) : ∀ i, (gH T j h i).length = h.length
  | 0 => rfl
  | i + 1 => by
    have ih := gH_len T j h i
    unfold gH
    split
    · exact ih
    · rw [List.length_set]; exact ih
theorem oS_n (n T : Nat) : ∀ j, (oS n T j).n = n
  | 0 => rfl
  | j + 1 => by unfold oS; rw [gS_n]; exact oS_n n T j
theorem oS_c (n T : Nat) : ∀ j, (oS n T j).c ≤ j * n
  | 0 => Nat.zero_le _
  | j + 1 => by
    have h1 := gS_c T (j + 1) (oS n T j) n
    have h2 := oS_c n T j
    unfold oS
    rw [Nat.succ_mul]
    omega
theorem oH_len (n T : Nat) : ∀ j, (oH n T j).length = n
  | 0 => List.length_replicate
  | j + 1 => by unfold oH; rw [gH_len]; exact oH_len n T j
def fateN (T a b q : Nat) : Nat := (a + b * q) % (T + 3)
def wf (n T a b : Nat) (H : List Int) : Nat → List (List Int) × List Int
  | 0 => (List.replicate n [], [])
  | i + 1 =>
    let p := wf n T a b H i
    if H.getD i 0 = 0 then (p.1.set i zeros, p.2)
    else (p.1.set i (if 1 < fateN T a b p.2.length then markL (i : Int) (min ((fateN T a b p.2.length : Int) - 1) (H.getD i 0)) else zeros), p.2 ++ [(fateN T a b p.2.length : Int) - 1])
theorem wf_len (n T a b : Nat) (H : List Int) : ∀ i, (wf n T a b H i).2.length ≤ i
  | 0 => Nat.le_refl _
  | i + 1 => by
    have ih := wf_len n T a b H i
    unfold wf
    by_cases h : H.getD i 0 = 0
    · simp only [h, if_true]
      omega
    · simp only [h, if_false, List.length_append, List.length_singleton]
      omega
theorem wf_zero (n T a b : Nat) (H : List Int) (i : Nat) (h : H.getD i 0 = 0) : wf n T a b H (i + 1) = ((wf n T a b H i).1.set i zeros, (wf n T a b H i).2) := by
  conv => lhs; unfold wf
  simp only [h, if_true]
theorem wf_more (n T a b : Nat) (H : List Int) (i : Nat) (hv : Int) (q fq : Nat) (h : H.getD i 0 = hv) (h0 : ¬ hv = 0) (hq : (wf n T a b H i).2.length = q) (hf : fateN T a b q = fq) :
    wf n T a b H (i + 1) = ((wf n T a b H i).1.set i (if 1 < fq then markL (i : Int) (min ((fq : Int) - 1) hv) else zeros), (wf n T a b H i).2 ++ [(fq : Int) - 1]) := by
  conv => lhs; unfold wf
  simp only [h, hq, hf, h0, if_false]
theorem crash_none (s : DS) (fs : List Int) (h : s.W = fun _ => []) : (s.crash fs).L = s.L := by
  have h1 : s.keysN = [] := by
    rw [List.eq_nil_iff_forall_not_mem]
    intro i hi
    exact ((s.mem_keysN i).1 hi).2 (by rw [h])
  show crashL s fs (min s.keysN.length fs.length) = s.L
  rw [h1]
  simp only [List.length_nil, Nat.zero_min]
  rfl
theorem crashL_withR (s : DS) (r : Int) (fs : List Int) : ∀ j, crashL (s.withR r) fs j = crashL s fs j
  | 0 => rfl
  | j + 1 => by
    have ih := crashL_withR s r fs j
    unfold crashL
    rw [ih]
    rfl
theorem crash_withR (s : DS) (r : Int) (fs : List Int) : ((s.withR r).crash fs).L = (s.crash fs).L := crashL_withR s r fs _
end Go.Proofs.Ytddnhcnkjcdfgaa.M

namespace Go.Proofs.Ytddnhcnkjcdfgaa.M
open Go.RowKit Go.Maps Go.Proofs.YtddnhcnkjcdfgaaW.PrintWords Go.Proofs.YtddnhcnkjcdfgaaW.PrintLast Go.Proofs.YtddnhcnkjcdfgaaW.PrintMore
open Go.Proofs.Ytddnhcnkjcdfgaa.P
set_option linter.unusedVariables false
set_option linter.unusedSimpArgs false
def great24_T : Bool × List (List Nat × List Nat) := (true, [([], []), ([0], [0]), ([1], [1]), ([2], [2]), ([2], [2]), ([3, 4, 2], [2, 3, 4]), ([5, 2], [2, 5]), ([6, 2], [2, 6]), ([7, 2, 2], [2, 7]), ([8], [8]), ([9, 8], [8, 9]), ([8], [8]), ([8], [8]), ([8], [8]), ([12, 13, 8], [8, 12, 13]), ([14, 8], [8, 14]), ([11, 15, 8, 8], [8, 11, 15]), ([16, 8], [8, 16]), ([10, 17, 8], [8, 10, 17]), ([8, 18, 2], [2, 8, 18]), ([2, 19], [2, 19]), ([20, 16], [20]), ([21], [21]), ([21], [21]), ([22, 23, 21], [21, 22, 23]), ([24, 21], [21, 24]), ([25, 21], [21, 25]), ([26, 21, 21], [21, 26]), ([27], [27]), ([28, 27], [27, 28]), ([27], [27]), ([27], [27]), ([30, 31, 27], [27, 30, 31]), ([32, 27], [27, 32]), ([33, 27], [27, 33]), ([29, 34, 27], [27, 29, 34]), ([27, 35, 21], [21, 27, 35]), ([21, 36], [21, 36])])
def great24_B : List Nat := [0, 1, 3, 7, 7, 31, 63, 127, 255, 511, 1023, 511, 511, 511, 12799, 29183, 63999, 129535, 262143, 524287, 1048575, 2097151, 4194303, 4194303, 16777215, 33554431, 67108863, 134217727, 268435455, 536870911, 268435455, 268435455, 3489660927, 7784628223, 16374562815, 34359738367, 68719476735, 137438953471]
theorem great24_tab : rtab .any (opsOf Try.f8 24) = great24_T := by kernel_rfl
theorem great24_bits : waitsOk great24_T.2 great24_B = true := by kernel_rfl
def great43_T : Bool × List (List Nat × List Nat) := (true, [([], []), ([0], [0]), ([1], [1]), ([2], [2]), ([3, 2], [2, 3]), ([2], [2]), ([2], [2]), ([5, 6, 2], [2, 5, 6]), ([7, 2], [2, 7]), ([8, 2], [2, 8]), ([4, 9, 2], [2, 4, 9]), ([2, 10], [2, 10]), ([11, 2], [11]), ([12], [12]), ([12], [12]), ([13, 14, 12], [12, 13, 14]), ([15, 12], [12, 15]), ([16, 12], [12, 16]), ([12], [12]), ([12], [12]), ([18, 19, 12], [12, 18, 19]), ([20, 12], [12, 20]), ([21, 12], [12, 21]), ([17, 22, 12], [12, 17, 22]), ([12, 23], [12, 23])])
def great43_B : List Nat := [0, 1, 3, 7, 15, 7, 7, 103, 231, 487, 1023, 2047, 4095, 8191, 8191, 32767, 65535, 131071, 8191, 8191, 794623, 1843199, 3940351, 8388607, 16777215]
theorem great43_tab : rtab .any (opsOf Try.f8 43) = great43_T := by kernel_rfl
theorem great43_bits : waitsOk great43_T.2 great43_B = true := by kernel_rfl
set_option maxHeartbeats 8000000 in
set_option maxRecDepth 100000 in
theorem great_calls (a0 a1 a2 a3 : Int) (w : World) (n T a b M : Nat) (hn2 : 2 ≤ n) (hnm : n ≤ 2000) (hT1 : 1 ≤ T) (hTm : T ≤ 2000) (hTn : T * n ≤ 30000) (ha : a < T + 2) (hb : b < T + 3)
    (hn : kilnlaw3_mod.f a0 1999 = some ((n : Int) - 2)) (q : Int) (hq : (30000 : Int) / (n : Int) = q) (hif : min (2000 : Int) q = (M : Int)) (hT : kilnlaw3_mod.f a1 (M : Int) = some ((T : Int) - 1)) (hfa : kilnlaw3_mod.f a2 ((T : Int) + 2) = some (a : Int)) (hfb : kilnlaw3_mod.f a3 ((T : Int) + 3) = some (b : Int))
    (hHb : ∀ i, 0 ≤ (oH n T T).getD i 0 ∧ (oH n T T).getD i 0 ≤ (T : Int))
    (hcur : ∀ i, i < n → (oS n T T).cur i = if 0 < (oH n T T).getD i 0 then markL (i : Int) ((oH n T T).getD i 0) else zeros)
    (hcrash : ∀ i, i < n → ((oS n T T).crash (wf n T a b (oH n T T) n).2).L.getD i [] = (wf n T a b (oH n T T) n).1.getD i []) :
    Calls Try.prog 8 #[.int .i64 a0, .int .i64 a1, .int .i64 a2, .int .i64 a3] w fun e w' => e = .returned (.bool true) ∧ Below w.heap.size w w' := by
  have hM1 := Aside0.mk (fun W => kilnlaw3_mod.calls a0 1999 ((n : Int) - 2) W hn)
  have hM2 := Aside0.mk (fun W => kilnlaw3_mod.calls a1 (M : Int) ((T : Int) - 1) W hT)
  have HHB := Aside0.mk hHb
  have HCUR := Aside0.mk hcur
  have HCR := Aside0.mk hcrash
  have hM3 := Aside0.mk (fun W => kilnlaw3_mod.calls a2 ((T : Int) + 2) (a : Int) W hfa)
  have hM4 := Aside0.mk (fun W => kilnlaw3_mod.calls a3 ((T : Int) + 3) (b : Int) W hfb)
  clear hHb hcur hcrash hfa hfb
  have hNEW := Aside0.mk (fun (w0 W : World) (L : List Th) (h : Sep w0 W L) => Sep.new h n hn2 (by omega))
  have HS0 := Aside0.mk (Sep.refl w)
  have hd0 : (0 : Int) ≤ 30000 / (n : Int) := Int.ediv_nonneg (by omega) (by omega)
  have hn0 : ((n : Int) == 0) = false := beq_eq_false_iff_ne.mpr (by omega)
  rw [hq] at hd0
  clear hn hT
  go_enter Try.func8, Try.ntmps8
  go_upto_region 2 with (go_at_call 20; (with_reducible refine (hM1.out _).mono ?_); rintro e w1 ⟨rfl, nd, rfl⟩)
  rw [show (2 : Int) + ((n : Int) - 2) = (n : Int) by omega]
  go_upto_region 3 with (go_at_call 20; (with_reducible refine (hM2.out _).mono ?_); rintro e w1 ⟨rfl, nd2, rfl⟩)
  rw [show (1 : Int) + ((T : Int) - 1) = (T : Int) by omega]
  clear hq hif hd0 hn0
  go_upto_region 6 with (go_at_call 21; (with_reducible refine (hNEW.out _ _ _ (HS0.out.step (by repeat (first | exact Below.refl _ _ | apply below_drew1 | apply pw_below_drewN | apply below_alloc)))).mono ?_); rintro e w1 ⟨g, rfl, h1⟩; have HS1 := Aside0.mk h1; clear h1)
  go_upto_region 7 with (at_make; refine Kd.R_make (Kd.int .i64) (w0 := w1) w1.heap.size 3 rfl (N := 47) rfl 51 (.tmp 46) (.tmp 46) rfl (n : Int) rfl rfl Try.underlying51 (.int .i64 0) 8 info3 rfl (by decide) (by decide) 0 (ok := fun _ => True) (okp := fun _ => False) ?mz (fun _ h => h.elim) trivial (by omega) ?ml (Below.refl _ _) (Nat.le_refl _) ?_; (case mz => exact rfl); (case ml => omega); intro vh w2 hr hb hg hat; have HR2 := Aside0.mk hr; have HB2 := Aside0.mk hb; clear hr hb hg hat)
  have h2_ := HS1.out.push_own HR2.out HB2.out
  rw [Int.toNat_natCast] at h2_
  obtain ⟨bh, ch, e2, hbh, _, _⟩ := Kd.R_form HR2.out (by rw [List.length_replicate]; omega)
  rw [List.length_replicate, Int.toNat_natCast] at e2
  subst e2
  have HS2 := Aside0.mk h2_.up1
  clear h2_ HR2 HB2 HS1 HS0 hM1 hM2 hNEW
  go_wp2
  go_loopg [13] T (fun kq v13 wr => ∃ j jj : Nat, v13 = .int .i64 jj ∧ Aside0 (jj = j + 1) ∧ Aside0 (j + kq = T) ∧ Aside0 (Sep w wr [dkT g (oS n T j), ownT (Kd.int .i64) 3 (.slice (some ⟨bh, 0, none⟩) n ch) (oH n T j)]))
  case atStart => exact ⟨0, 1, rfl, ⟨rfl⟩, ⟨Nat.zero_add _⟩, HS2⟩
  case round =>
    clear HS2
    obtain ⟨j, jj, rfl, HJJ, HJ, HS⟩ := hrel
    rename World => wo
    by_cases hj : jj ≤ T
    · have hjb : decide (jj ≤ T) = true := decide_eq_true hj
      have HJ1 := Aside0.mk hj
      have hjm : jj ≤ 2000 := by omega
      clear hj
      go_wp2
      go_loopg [14] n (fun kq v14 wr => ∃ i : Nat, v14 = .int .i64 i ∧ Aside0 (i + kq = n) ∧ Aside0 (Sep w wr [dkT g (gS T jj (oS n T j) i), ownT (Kd.int .i64) 3 (.slice (some ⟨bh, 0, none⟩) n ch) (gH T jj (oH n T j) i)]))
      case atStart => exact ⟨0, rfl, ⟨Nat.zero_add _⟩, HS⟩
      case round =>
        clear HS
        obtain ⟨i, rfl, HI, HS⟩ := hrel
        rename World => wi
        by_cases hi : i < n
        · have hib : decide (i < n) = true := decide_eq_true hi
          have HI1 := Aside0.mk hi
          by_cases hs : skp T i jj = true
          · have HSn := Aside0.mk (show Sep w wi [dkT g (gS T jj (oS n T j) (i + 1)), ownT (Kd.int .i64) 3 (.slice (some ⟨bh, 0, none⟩) n ch) (gH T jj (oH n T j) (i + 1))] from by
              unfold gS gH
              rw [if_pos hs, if_pos hs]
              exact HS.out)
            clear HS
            by_cases c1 : i % 5 = 4
            · have c1a : (i : Int) % 5 = 4 := by omega
              clear c1 hs
              go_wp2
              go_roundg (gk - 1)
              case measure => have := HI.out; have := HI1.out; omega
              case rel => exact ⟨i + 1, (by have hi_ := HI1.out; have hl_ := hnm; first | rfl | (simp; done)), ⟨by have := HI.out; have := HI1.out; omega⟩, HSn⟩
            · have c2 : i % 3 = 2 ∧ jj = T := by
                unfold skp at hs
                rw [decide_eq_false c1, Bool.false_or, Bool.and_eq_true] at hs
                exact ⟨of_decide_eq_true hs.1, of_decide_eq_true hs.2⟩
              have c2a : (i : Int) % 3 = 2 := by omega
              have c1a : ((i : Int) % 5 == 4) = false := beq_eq_false_iff_ne.mpr (by omega)
              have c1b : ¬ ((i : Int) % 5 = 4) := by omega
              have c3a : ((jj : Int) == (T : Int)) = true := beq_iff_eq.mpr (by omega)
              clear c1 hs c2
              go_wp2
              go_roundg (gk - 1)
              case measure => have := HI.out; have := HI1.out; omega
              case rel => exact ⟨i + 1, (by have hi_ := HI1.out; have hl_ := hnm; first | rfl | (simp; done)), ⟨by have := HI.out; have := HI1.out; omega⟩, HSn⟩
          · have c1b : ¬ (i % 5 = 4) := by
              intro h
              unfold skp at hs
              rw [decide_eq_true h] at hs
              exact hs rfl
            have c1 : ((i : Int) % 5 == 4) = false := beq_eq_false_iff_ne.mpr (by omega)
            have c1a : ¬ ((i : Int) % 5 = 4) := by omega
            have c23 : ((i : Int) % 3 = 2 ∧ ((jj : Int) == (T : Int)) = false) ∨ ¬ ((i : Int) % 3 = 2) := by
              by_cases h : i % 3 = 2
              · refine .inl ⟨by omega, beq_eq_false_iff_ne.mpr (fun e => hs ?_)⟩
                unfold skp
                rw [decide_eq_true h, decide_eq_true (show jj = T by omega)]
                simp
              · exact .inr (by omega)
            obtain ⟨hc, hf⟩ := HS.out.up1.cell (0 : Int) i hi
            have HSN := Aside0.mk hs
            clear c1b hs
            have HS15 := Aside0.mk ((HS.out.up1.put i (jj : Int)).up1)
            have HWR := Aside0.mk (fun W v (h : Sep w W (ownT (Kd.int .u8) 5 v (markL (i : Int) (jj : Int)) :: dkT g (gS T jj (oS n T j) i) :: [ownT (Kd.int .i64) 3 (.slice (some ⟨bh, 0, none⟩) n ch) ((gH T jj (oH n T j) i).set i (jj : Int))])) => Sep.write_own v _ h i (by rw [gS_n, oS_n]; exact hi) (by have h1_ := gS_c T jj (oS n T j) i; have h2_ := oS_c n T j; have h3_ : j * n ≤ T * n := Nat.mul_le_mul_right n (by have := HJ.out; omega); omega) (mark_ok _ _).2)
            have hi0 : (0 : Int) ≤ (i : Int) := by omega
            have hi1 : (i : Int) < (n : Int) := by omega
            clear hi
            rcases c23 with ⟨c2, c3⟩ | c2
            all_goals
              go_upto_region 15 with (fail)
              generalize wi.setCell ⟨bh, i, none⟩ (.int .i64 (jj : Int)) = w15 at HS15 ⊢
              go_wp2_with (first
                | (go_at_call 31; (with_reducible refine (kilnlaw3_mark.calls (i : Int) (jj : Int) _ _ (mark_ok _ _).1).mono ?_); rintro e w16 ⟨v16, rfl, hr, hb⟩; have HS16 := Aside0.mk (HS15.out.push_own hr hb); clear hr hb)
                | (go_at_call 16; (with_reducible refine (HWR.out _ _ HS16.out).mono ?_); rintro e w17 ⟨rfl, h17⟩; have HS17 := Aside0.mk h17.drop; clear h17))
              have HSn := Aside0.mk (show Sep w w17 [dkT g (gS T jj (oS n T j) (i + 1)), ownT (Kd.int .i64) 3 (.slice (some ⟨bh, 0, none⟩) n ch) (gH T jj (oH n T j) (i + 1))] from by
                unfold gS gH
                rw [if_neg HSN.out, if_neg HSN.out]
                exact HS17.out)
              go_roundg (gk - 1)
              case measure => have := HI.out; have := HI1.out; omega
              case rel => exact ⟨i + 1, (by have hi_ := HI1.out; have hl_ := hnm; first | rfl | (simp; done)), ⟨by have := HI.out; have := HI1.out; omega⟩, HSn⟩
        · have hib : decide (i < n) = false := decide_eq_false hi
          obtain rfl : i = n := by have := HI.out; omega
          clear hi
          go_wp2
          go_roundg (T - j - 1)
          case measure => have := HJ.out; have := HJ1.out; have := HJJ.out; omega
          case rel => exact ⟨j + 1, jj + 1, (by have hi_ := hjm; first | rfl | (simp; done)), ⟨by have := HJJ.out; omega⟩, ⟨by have := HJ.out; have := HJ1.out; have := HJJ.out; omega⟩, ⟨by unfold oS oH; rw [← HJJ.out]; exact HS.out⟩⟩
    · have hjb : decide (jj ≤ T) = false := decide_eq_false hj
      obtain rfl : T = j := by have := HJ.out; have := HJJ.out; omega
      clear hj
      obtain ⟨S, hS⟩ : ∃ S, S = oS n T T := ⟨_, rfl⟩
      obtain ⟨H, hH⟩ : ∃ H, H = oH n T T := ⟨_, rfl⟩
      rw [← hS, ← hH] at HS
      rw [← hH] at HHB
      rw [← hS, ← hH] at HCUR HCR
      have HSn := Aside0.mk (show S.n = n from by rw [hS]; exact oS_n n T T)
      have HSc := Aside0.mk (show S.c < 1073741824 from by rw [hS]; have h_ := oS_c n T T; omega)
      have HHl := Aside0.mk (show H.length = n from by rw [hH]; exact oH_len n T T)
      clear hS hH
      go_upto_region 18 with (at_make; refine Kd.R_make KB (w0 := wo) wo.heap.size 28 rfl (N := 83) rfl 37 (.tmp 82) (.tmp 82) rfl (n : Int) rfl rfl Try.underlying37 (.slice none 0 0) 24 info28 rfl (by decide) (by decide) [] (ok := fun _ => True) (okp := fun _ => False) ?mz (fun _ h => h.elim) trivial (by omega) ?ml (Below.refl _ _) (Nat.le_refl _) ?_; (case mz => exact ⟨_, rfl, Kd.R_nil _ _ _ _ _⟩); (case ml => omega); intro vw w3 hr hb hg hat; have HR3 := Aside0.mk hr; have HB3 := Aside0.mk hb; clear hr hb hg hat)
      have h3_ := (HS.out.push_nil (Kd.int .i64) 3).down2.push_own HR3.out HB3.out
      rw [Int.toNat_natCast] at h3_
      obtain ⟨bw, cw, e3, _, _, _⟩ := Kd.R_form HR3.out (by rw [List.length_replicate]; omega)
      rw [List.length_replicate, Int.toNat_natCast] at e3
      subst e3
      have HS3 := Aside0.mk h3_.up1
      clear h3_ HR3 HB3 HS
      go_wp2
      go_loopg [16, 17] n (fun kq v16 v17 wr => ∃ i : Nat, v17 = .int .i64 i ∧ Aside0 (i + kq = n) ∧ ∃ r, Aside0 (Sep w wr [dkT g (S.withR r), ownT KB 28 (.slice (some ⟨bw, 0, none⟩) n cw) (wf n T a b H i).1, ownT (Kd.int .i64) 3 (.slice (some ⟨bh, 0, none⟩) n ch) H, ownT (Kd.int .i64) 3 v16 (wf n T a b H i).2]))
      case atStart => exact ⟨0, rfl, ⟨Nat.zero_add _⟩, S.r, HS3⟩
      case round =>
        clear HS3
        obtain ⟨i, rfl, HI, r, HS⟩ := hrel
        by_cases hi : i < n
        · have hib : decide (i < n) = true := decide_eq_true hi
          have hi0 : (0 : Int) ≤ (i : Int) := by omega
          have hi1 : (i : Int) < (n : Int) := by omega
          have HI1 := Aside0.mk hi
          have HRD := Aside0.mk (fun W (L : List Th) (h : Sep w W (dkT g (S.withR r) :: L)) => Sep.read h i (by show i < S.n; rw [HSn.out]; exact HI1.out))
          clear hi
          go_upto_region 23 with (at_make; refine Kd.R_make (Kd.int .u8) wr.heap.size 5 rfl (N := 91) rfl 28 _ _ rfl 512 rfl rfl Try.underlying28 (.int .u8 0) 1 info5 rfl (by decide) (by decide) 0 (ok := fun _ => True) (okp := fun _ => True) rfl (fun _ h => h) trivial (by omega) (by omega) (Below.refl _ _) (Nat.le_refl _) ?_; intro v91 w91 hr hb hg hat; obtain ⟨A91, c91, e91⟩ := Kd.R_slice hr; rw [List.length_replicate, show (512 : Int).toNat = 512 from rfl] at e91; subst e91; have HS91 := Aside0.mk (HS.out.push_own hr hb).up2; obtain ⟨A_, c_, hsl, hfz, _⟩ := HS91.out.slot i HI1.out; clear hr hb hg hat)
          have HS92 := Aside0.mk (HS91.out.up1.put_row i HI1.out).up1
          clear HS91 HS hsl hfz
          generalize w91.setCell ⟨bw, i, none⟩ (.slice A91 512 c91) = w92 at HS92 ⊢
          go_upto_region 24 with (go_at_call 25; (with_reducible refine (HRD.out _ _ HS92.out).mono ?_); rintro e w93 ⟨v93, rfl, h⟩; have HS93 := Aside0.mk h; clear h)
          have hcu : (S.withR r).cur i = S.cur i := rfl
          rw [hcu] at HS93
          have hct := HCUR.out i HI1.out
          have hvb := HHB.out i
          obtain ⟨t, ht⟩ : ∃ x, x = S.cur i := ⟨_, rfl⟩
          obtain ⟨hv, hhv⟩ : ∃ x, x = H.getD i 0 := ⟨_, rfl⟩
          rw [← ht] at HS93 hct
          rw [← hhv] at hct hvb
          have HHV := Aside0.mk hhv
          have hK0 : ∀ W, Below w93.heap.size w93 W → W.cell? ⟨bh, i, none⟩ = some (.int .i64 hv) ∧ (convert 28 9 v93).run Try.prog W = .ok (.string (strOfNums t)) W := by
            intro W hW
            have h1 := HS93.out.step hW
            obtain ⟨b_, ok_, hr_⟩ := h1.own
            have h2 := (h1.up3.cell (0 : Int) i HI1.out).1
            rw [← hhv] at h2
            exact ⟨h2, own_string (P := Try.prog) Try.underlying28 Try.underlying5 Try.underlying9 (Kd.own_of_R hr_)⟩
          have HK0 := Aside0.mk hK0
          obtain ⟨hc93, hs93⟩ := hK0 _ (Below.refl _ _)
          have c9b0 : ((strOfNums t).toList == (strOfNums t).toList) = true := beq_iff_eq.mpr rfl
          have c9b1 : ((strOfNums t).toList != (strOfNums t).toList) = false := bne_eq_false_iff_eq.mpr rfl
          have HVB := Aside0.mk hvb
          clear hcu ht hhv hK0 hvb
          have HB94 := Aside0.mk (below_drew1 (Below.refl w93.heap.size w93))
          by_cases hp : 0 < hv
          · rw [if_pos hp] at hct
            have hpd : decide (0 < hv) = true := decide_eq_true hp
            have hp2 : (hv == 0) = false := beq_eq_false_iff_ne.mpr (by omega)
            have HT := Aside0.mk hct
            have HP := Aside0.mk hp
            clear hct hp
            have HMK := Aside0.mk (fun W => kilnlaw3_mark.calls (i : Int) hv t W (HT.out ▸ (mark_ok _ _).1))
            refine start_ (n := 38) (S := fun W => W.cell? ⟨bh, i, none⟩ = some (.int .i64 hv) ∧ (convert 28 9 v93).run Try.prog W = .ok (.string (strOfNums t)) W) (ds := []) (bb 38 0) (by kernel_rfl) rfl rfl (HK0.out _ HB94.out) (fun hHeld => ?_); refine with_tabW great24_tab great24_bits (fun HT_ HW_ => ?_)
            generalize w93.drew = w94 at hHeld HB94 ⊢
            refine pure_ (i := 0) (N := (some 99)) (v := ?_) (a' := ?_) (bb 38 1) rfl rfl (any_of HT_.out (by kernel_rfl)) (fun _ _ _ h => h) (Or.inl ⟨by rfl, ?_⟩) ?_ ?_
            rotate_left
            · intro w'
              go_simp
              with_reducible rfl
            rotate_left
            · simp only [Act.put, List.setIfInBounds_toArray, List.set_cons_zero, List.set_cons_succ, i64_w, i32_w]
              rfl
            refine pure_ (i := 1) (N := (some 100)) (v := ?_) (a' := ?_) (bb 38 3) rfl rfl (any_of HT_.out (by kernel_rfl)) (fun _ _ _ h => h) (Or.inl ⟨by rfl, ?_⟩) ?_ ?_
            rotate_left
            · intro w'
              go_simp
              with_reducible rfl
            rotate_left
            · simp only [Act.put, List.setIfInBounds_toArray, List.set_cons_zero, List.set_cons_succ, i64_w, i32_w]
              rfl
            refine pure_ (i := 2) (N := (some 101)) (v := ?_) (a' := ?_) (bb 38 7) rfl rfl (any_of HT_.out (by kernel_rfl)) (fun _ _ _ h => h) (Or.inl ⟨by rfl, ?_⟩) ?_ ?_
            rotate_left
            · intro w'
              go_simp
              with_reducible rfl
            rotate_left
            · simp only [Act.put, List.setIfInBounds_toArray, List.set_cons_zero, List.set_cons_succ, i64_w, i32_w]
              rfl
            refine pure_ (i := 3) (N := (some 102)) (v := ?_) (a' := ?_) (bb 38 15) rfl rfl (any_of HT_.out (by kernel_rfl)) (fun _ _ _ h => h) (Or.inl ⟨by rfl, ?_⟩) ?_ ?_
            rotate_left
            · intro w'
              go_simp
              with_reducible rfl
            rotate_left
            · simp only [Act.put, List.setIfInBounds_toArray, List.set_cons_zero, List.set_cons_succ, i64_w, i32_w]
              rfl
            refine pure_ (i := 4) (N := (some 103)) (v := ?_) (a' := ?_) (bb 38 31) rfl rfl (any_of HT_.out (by kernel_rfl)) (fun _ _ _ h => h) (Or.inl ⟨by rfl, ?_⟩) ?_ ?_
            rotate_left
            · intro w'
              go_simp
              with_reducible rfl
            rotate_left
            · simp only [Act.put, List.setIfInBounds_toArray, List.set_cons_zero, List.set_cons_succ, i64_w, i32_w]
              rfl
            refine pure_ (i := 5) (N := (some 104)) (v := ?_) (a' := ?_) (bb 38 63) rfl rfl (any_of HT_.out (by kernel_rfl)) (fun _ _ _ h => h) (Or.inl ⟨by rfl, ?_⟩) ?_ ?_
            rotate_left
            · intro w'
              go_simp
              with_reducible rfl
            rotate_left
            · simp only [Act.put, List.setIfInBounds_toArray, List.set_cons_zero, List.set_cons_succ, i64_w, i32_w]
              rfl
            refine take_ (i := 6) (N := (some 105)) (v := ?_) (a' := ?_) (bb 38 127) rfl rfl (take_ofW HT_.out HW_.out (by kernel_rfl)) (fun _ _ _ h => h) (Or.inl ⟨by rfl, ?_⟩) hHeld ?_ ?_
            rotate_left
            · intro w' s0
              (try dsimp only at s0)
              go_simp
              with_reducible rfl
            rotate_left
            · simp only [Act.put, List.setIfInBounds_toArray, List.set_cons_zero, List.set_cons_succ, i64_w, i32_w]
              rfl
            refine pure_ (i := 7) (N := (some 106)) (v := ?_) (a' := ?_) (bb 38 255) rfl rfl (any_of HT_.out (by kernel_rfl)) (fun _ _ _ h => h) (Or.inl ⟨by rfl, ?_⟩) ?_ ?_
            rotate_left
            · intro w'
              go_simp
              with_reducible rfl
            rotate_left
            · simp only [Act.put, List.setIfInBounds_toArray, List.set_cons_zero, List.set_cons_succ, i64_w, i32_w]
              rfl
            refine pure_ (i := 8) (N := (some 107)) (v := ?_) (a' := ?_) (bb 38 511) rfl rfl (any_of HT_.out (by kernel_rfl)) (fun _ _ _ h => h) (Or.inl ⟨by rfl, ?_⟩) ?_ ?_
            rotate_left
            · intro w'
              go_simp
              with_reducible rfl
            rotate_left
            · simp only [Act.put, List.setIfInBounds_toArray, List.set_cons_zero, List.set_cons_succ, i64_w, i32_w]
              rfl
            refine pure_ (i := 9) (N := (some 108)) (v := ?_) (a' := ?_) (bb 38 1023) rfl rfl (any_of HT_.out (by kernel_rfl)) (fun _ _ _ h => h) (Or.inl ⟨by rfl, ?_⟩) ?_ ?_
            rotate_left
            · intro w'
              go_simp
              with_reducible rfl
            rotate_left
            · simp only [Act.put, List.setIfInBounds_toArray, List.set_cons_zero, List.set_cons_succ, i64_w, i32_w]
              rfl
            refine take_ (i := 10) (N := (some 109)) (v := ?_) (a' := ?_) (bb 38 2047) rfl rfl (take_ofW HT_.out HW_.out (by kernel_rfl)) (fun _ _ _ h => h) (Or.inl ⟨by rfl, ?_⟩) hHeld ?_ ?_
            rotate_left
            · intro w' s0
              (try dsimp only at s0)
              go_simp
              with_reducible rfl
            rotate_left
            · simp only [Act.put, List.setIfInBounds_toArray, List.set_cons_zero, List.set_cons_succ, i64_w, i32_w]
              rfl
            refine pure_ (i := 11) (N := (some 110)) (v := ?_) (a' := ?_) (bb 38 4095) rfl rfl (any_of HT_.out (by kernel_rfl)) (fun _ _ _ h => h) (Or.inl ⟨by rfl, ?_⟩) ?_ ?_
            rotate_left
            · intro w'
              go_simp
              with_reducible rfl
            rotate_left
            · simp only [Act.put, List.setIfInBounds_toArray, List.set_cons_zero, List.set_cons_succ, i64_w, i32_w]
              rfl
            refine pure_ (i := 12) (N := (some 111)) (v := ?_) (a' := ?_) (bb 38 8191) rfl rfl (any_of HT_.out (by kernel_rfl)) (fun _ _ _ h => h) (Or.inl ⟨by rfl, ?_⟩) ?_ ?_
            rotate_left
            · intro w'
              go_simp
              with_reducible rfl
            rotate_left
            · simp only [Act.put, List.setIfInBounds_toArray, List.set_cons_zero, List.set_cons_succ, i64_w, i32_w]
              rfl
            refine pure_ (i := 13) (N := (some 112)) (v := ?_) (a' := ?_) (bb 38 16383) rfl rfl (any_of HT_.out (by kernel_rfl)) (fun _ _ _ h => h) (Or.inl ⟨by rfl, ?_⟩) ?_ ?_
            rotate_left
            · intro w'
              go_simp
              with_reducible rfl
            rotate_left
            · simp only [Act.put, List.setIfInBounds_toArray, List.set_cons_zero, List.set_cons_succ, i64_w, i32_w]
              rfl
            refine pure_ (i := 14) (N := (some 113)) (v := ?_) (a' := ?_) (bb 38 32767) rfl rfl (any_of HT_.out (by kernel_rfl)) (fun _ _ _ h => h) (Or.inl ⟨by rfl, ?_⟩) ?_ ?_
            rotate_left
            · intro w'
              go_simp
              with_reducible rfl
            rotate_left
            · simp only [Act.put, List.setIfInBounds_toArray, List.set_cons_zero, List.set_cons_succ, i64_w, i32_w]
              rfl
            refine take_ (i := 15) (N := (some 114)) (v := ?_) (a' := ?_) (bb 38 65535) rfl rfl (take_ofW HT_.out HW_.out (by kernel_rfl)) (fun _ _ _ h => h) (Or.inl ⟨by rfl, ?_⟩) hHeld ?_ ?_
            rotate_left
            · intro w' s0
              (try dsimp only at s0)
              go_simp
              with_reducible rfl
            rotate_left
            · simp only [Act.put, List.setIfInBounds_toArray, List.set_cons_zero, List.set_cons_succ, i64_w, i32_w]
              rfl
            refine one_ (i := 16) (N := (some 115)) (bb 38 131071) rfl rfl (one_of HT_.out (by kernel_rfl)) (by decide) (fun K hK => ?_)
            refine goes_ Try.func31 (by kernel_rfl) rfl #[.int .i64 (i : Int), .int .i64 hv] (by rfl) rfl rfl (by (try simp only [List.map_toArray, List.map_cons, List.map_nil]); first | done | rfl) ?_
            with_reducible refine (HMK.out _).mono ?_
            rintro e w95 ⟨v95, rfl, hr, hb⟩
            have hcv := own_string (P := Try.prog) Try.underlying28 Try.underlying5 Try.underlying9 (Kd.own_of_R hr)
            have HB95 := Aside0.mk (show Below w93.heap.size w93 w95 from below_step HB94.out hb)
            clear hr hb
            refine ⟨_, rfl, ?_⟩
            refine hK.out _ _ (HK0.out _ HB95.out) (fun hHeld => ?_)
            clear hK K
            refine norm_ (a' := ?_) ?_ ?_
            rotate_left
            · show Act.put _ (some 115) _ = _
              simp only [Act.put, List.setIfInBounds_toArray, List.set_cons_zero, List.set_cons_succ, i64_w, i32_w]
              rfl
            refine one_ (i := 17) (N := (some 116)) (bb 38 262143) rfl rfl (one_of HT_.out (by kernel_rfl)) (by decide) (fun K hK => ?_)
            refine value_ (w1 := ?_) (v := ?_) (by rfl) rfl ?_ ?_
            rotate_left 2
            · go_simp
              constructor
              · rfl
              · rfl
            refine hK.out _ _ (HK0.out _ HB95.out) (fun hHeld => ?_)
            clear hK K
            refine norm_ (a' := ?_) ?_ ?_
            rotate_left
            · show Act.put _ (some 116) _ = _
              simp only [Act.put, List.setIfInBounds_toArray, List.set_cons_zero, List.set_cons_succ, i64_w, i32_w]
              rfl
            refine pure_ (i := 18) (N := (some 117)) (v := ?_) (a' := ?_) (bb 38 524287) rfl rfl (any_of HT_.out (by kernel_rfl)) (fun _ _ _ h => h) (Or.inl ⟨by rfl, ?_⟩) ?_ ?_
            rotate_left
            · intro w'
              go_simp
              with_reducible rfl
            rotate_left
            · simp only [Act.put, List.setIfInBounds_toArray, List.set_cons_zero, List.set_cons_succ, i64_w, i32_w]
              rfl
            refine pure_ (i := 19) (N := (some 118)) (v := ?_) (a' := ?_) (bb 38 1048575) rfl rfl (any_of HT_.out (by kernel_rfl)) (fun _ _ _ h => h) (Or.inl ⟨by rfl, ?_⟩) ?_ ?_
            rotate_left
            · intro w'
              go_simp
              with_reducible rfl
            rotate_left
            · simp only [Act.put, List.setIfInBounds_toArray, List.set_cons_zero, List.set_cons_succ, i64_w, i32_w]
              rfl
            refine pure_ (i := 20) (N := (some 119)) (v := ?_) (a' := ?_) (bb 38 2097151) rfl rfl (any_of HT_.out (by kernel_rfl)) (fun _ _ _ h => h) (Or.inl ⟨by rfl, ?_⟩) ?_ ?_
            rotate_left
            · intro w'
              go_simp
              with_reducible rfl
            rotate_left
            · simp only [Act.put, List.setIfInBounds_toArray, List.set_cons_zero, List.set_cons_succ, i64_w, i32_w]
              rfl
            refine pure_ (i := 21) (N := (some 120)) (v := ?_) (a' := ?_) (bb 38 4194303) rfl rfl (any_of HT_.out (by kernel_rfl)) (fun _ _ _ h => h) (Or.inl ⟨by rfl, ?_⟩) ?_ ?_
            rotate_left
            · intro w'
              go_simp
              with_reducible rfl
            rotate_left
            · simp only [Act.put, List.setIfInBounds_toArray, List.set_cons_zero, List.set_cons_succ, i64_w, i32_w]
              rfl
            refine pure_ (i := 22) (N := (some 121)) (v := ?_) (a' := ?_) (bb 38 8388607) rfl rfl (any_of HT_.out (by kernel_rfl)) (fun _ _ _ h => h) (Or.inl ⟨by rfl, ?_⟩) ?_ ?_
            rotate_left
            · intro w'
              go_simp
              with_reducible rfl
            rotate_left
            · simp only [Act.put, List.setIfInBounds_toArray, List.set_cons_zero, List.set_cons_succ, i64_w, i32_w]
              rfl
            refine pure_ (i := 23) (N := (some 122)) (v := ?_) (a' := ?_) (bb 38 16777215) rfl rfl (any_of HT_.out (by kernel_rfl)) (fun _ _ _ h => h) (Or.inl ⟨by rfl, ?_⟩) ?_ ?_
            rotate_left
            · intro w'
              go_simp
              with_reducible rfl
            rotate_left
            · simp only [Act.put, List.setIfInBounds_toArray, List.set_cons_zero, List.set_cons_succ, i64_w, i32_w]
              rfl
            refine pure_ (i := 24) (N := (some 123)) (v := ?_) (a' := ?_) (bb 38 33554431) rfl rfl (any_of HT_.out (by kernel_rfl)) (fun _ _ _ h => h) (Or.inl ⟨by rfl, ?_⟩) ?_ ?_
            rotate_left
            · intro w'
              go_simp
              with_reducible rfl
            rotate_left
            · simp only [Act.put, List.setIfInBounds_toArray, List.set_cons_zero, List.set_cons_succ, i64_w, i32_w]
              rfl
            refine take_ (i := 25) (N := (some 124)) (v := ?_) (a' := ?_) (bb 38 67108863) rfl rfl (take_ofW HT_.out HW_.out (by kernel_rfl)) (fun _ _ _ h => h) (Or.inl ⟨by rfl, ?_⟩) hHeld ?_ ?_
            rotate_left
            · intro w' s0
              (try dsimp only at s0)
              go_simp
              with_reducible rfl
            rotate_left
            · simp only [Act.put, List.setIfInBounds_toArray, List.set_cons_zero, List.set_cons_succ, i64_w, i32_w]
              rfl
            refine pure_ (i := 26) (N := (some 125)) (v := ?_) (a' := ?_) (bb 38 134217727) rfl rfl (any_of HT_.out (by kernel_rfl)) (fun _ _ _ h => h) (Or.inl ⟨by rfl, ?_⟩) ?_ ?_
            rotate_left
            · intro w'
              go_simp
              with_reducible rfl
            rotate_left
            · simp only [Act.put, List.setIfInBounds_toArray, List.set_cons_zero, List.set_cons_succ, i64_w, i32_w]
              rfl
            refine pure_ (i := 27) (N := (some 126)) (v := ?_) (a' := ?_) (bb 38 268435455) rfl rfl (any_of HT_.out (by kernel_rfl)) (fun _ _ _ h => h) (Or.inl ⟨by rfl, ?_⟩) ?_ ?_
            rotate_left
            · intro w'
              go_simp
              with_reducible rfl
            rotate_left
            · simp only [Act.put, List.setIfInBounds_toArray, List.set_cons_zero, List.set_cons_succ, i64_w, i32_w]
              rfl
            refine pure_ (i := 28) (N := (some 127)) (v := undef) (a' := ?_) (bb 38 536870911) rfl rfl (any_of HT_.out (by kernel_rfl)) (fun _ _ _ h => h) (Or.inr ⟨by rfl, rfl⟩) ?_ ?_
            rotate_left
            · simp only [Act.put, List.setIfInBounds_toArray, List.set_cons_zero, List.set_cons_succ, i64_w, i32_w]
              rfl
            refine pure_ (i := 29) (N := (some 128)) (v := undef) (a' := ?_) (bb 38 1073741823) rfl rfl (any_of HT_.out (by kernel_rfl)) (fun _ _ _ h => h) (Or.inr ⟨by rfl, rfl⟩) ?_ ?_
            rotate_left
            · simp only [Act.put, List.setIfInBounds_toArray, List.set_cons_zero, List.set_cons_succ, i64_w, i32_w]
              rfl
            refine pure_ (i := 30) (N := (some 129)) (v := undef) (a' := ?_) (bb 38 2147483647) rfl rfl (any_of HT_.out (by kernel_rfl)) (fun _ _ _ h => h) (Or.inr ⟨by rfl, rfl⟩) ?_ ?_
            rotate_left
            · simp only [Act.put, List.setIfInBounds_toArray, List.set_cons_zero, List.set_cons_succ, i64_w, i32_w]
              rfl
            refine pure_ (i := 31) (N := (some 130)) (v := undef) (a' := ?_) (bb 38 4294967295) rfl rfl (any_of HT_.out (by kernel_rfl)) (fun _ _ _ h => h) (Or.inr ⟨by rfl, rfl⟩) ?_ ?_
            rotate_left
            · simp only [Act.put, List.setIfInBounds_toArray, List.set_cons_zero, List.set_cons_succ, i64_w, i32_w]
              rfl
            refine pure_ (i := 32) (N := (some 131)) (v := undef) (a' := ?_) (bb 38 8589934591) rfl rfl (any_of HT_.out (by kernel_rfl)) (fun _ _ _ h => h) (Or.inr ⟨by rfl, rfl⟩) ?_ ?_
            rotate_left
            · simp only [Act.put, List.setIfInBounds_toArray, List.set_cons_zero, List.set_cons_succ, i64_w, i32_w]
              rfl
            refine pure_ (i := 33) (N := (some 132)) (v := undef) (a' := ?_) (bb 38 17179869183) rfl rfl (any_of HT_.out (by kernel_rfl)) (fun _ _ _ h => h) (Or.inr ⟨by rfl, rfl⟩) ?_ ?_
            rotate_left
            · simp only [Act.put, List.setIfInBounds_toArray, List.set_cons_zero, List.set_cons_succ, i64_w, i32_w]
              rfl
            refine pure_ (i := 34) (N := (some 133)) (v := undef) (a' := ?_) (bb 38 34359738367) rfl rfl (any_of HT_.out (by kernel_rfl)) (fun _ _ _ h => h) (Or.inr ⟨by rfl, rfl⟩) ?_ ?_
            rotate_left
            · simp only [Act.put, List.setIfInBounds_toArray, List.set_cons_zero, List.set_cons_succ, i64_w, i32_w]
              rfl
            refine pure_ (i := 35) (N := (some 134)) (v := undef) (a' := ?_) (bb 38 68719476735) rfl rfl (any_of HT_.out (by kernel_rfl)) (fun _ _ _ h => h) (Or.inr ⟨by rfl, rfl⟩) ?_ ?_
            rotate_left
            · simp only [Act.put, List.setIfInBounds_toArray, List.set_cons_zero, List.set_cons_succ, i64_w, i32_w]
              rfl
            refine pure_ (i := 36) (N := (some 135)) (v := ?_) (a' := ?_) (bb 38 137438953471) rfl rfl (any_of HT_.out (by kernel_rfl)) (fun _ _ _ h => h) (Or.inl ⟨by rfl, ?_⟩) ?_ ?_
            rotate_left
            · intro w'
              go_simp
              with_reducible rfl
            rotate_left
            · simp only [Act.put, List.setIfInBounds_toArray, List.set_cons_zero, List.set_cons_succ, i64_w, i32_w]
              rfl
            refine pure_ (i := 37) (N := (some 136)) (v := ?_) (a' := ?_) (bb 38 274877906943) rfl rfl (any_of HT_.out (by kernel_rfl)) (fun _ _ _ h => h) (Or.inl ⟨by rfl, ?_⟩) ?_ ?_
            rotate_left
            · intro w'
              go_simp
              with_reducible rfl
            rotate_left
            · simp only [Act.put, List.setIfInBounds_toArray, List.set_cons_zero, List.set_cons_succ, i64_w, i32_w]
              rfl
            refine done_ (done_of HT_.out (by kernel_rfl)) ?_
            have HS95 := Aside0.mk (HS93.out.step HB95.out).drop
            have hc95 := (HK0.out _ HB95.out).1
            clear hcv hHeld hc93 hs93 c9b0 c9b1 HMK HK0 HB94 HB95 HS93
            obtain ⟨A16, c16, e16⟩ : ∃ A c, u16 = .slice A (wf n T a b H i).2.length c := by
              obtain ⟨_, _, hr_⟩ := HS95.out.up3.own
              exact Kd.R_slice hr_
            subst e16
            have hql := wf_len n T a b H i
            obtain ⟨q, hq⟩ : ∃ x, x = (wf n T a b H i).2.length := ⟨_, rfl⟩
            rw [← hq] at HS95 hql ⊢
            have HQ := Aside0.mk hq
            obtain ⟨p, hpq⟩ : ∃ x, x = b * q := ⟨_, rfl⟩
            have hpm : p ≤ 2002 * 2000 := by rw [hpq]; exact Nat.mul_le_mul (by omega) (by have := HI1.out; omega)
            have hpi : (b : Int) * (q : Int) = (p : Int) := by rw [hpq]; exact (Int.natCast_mul b q).symm
            obtain ⟨fq, hfq⟩ : ∃ x, x = fateN T a b q := ⟨_, rfl⟩
            have hfm : ((a : Int) + (p : Int)) % ((T : Int) + 3) = (fq : Int) := by rw [hfq]; unfold fateN; rw [← hpq]; push_cast; rfl
            have hfl : fq < T + 3 := by rw [hfq]; exact Nat.mod_lt _ (by omega)
            have ht3 : ((T : Int) + 3 == 0) = false := beq_eq_false_iff_ne.mpr (by omega)
            have ht4 : ¬ ((T : Int) + 3 = 0) := by omega
            have HFQ := Aside0.mk hfq
            clear hpq hfq hq
            go_upto_region 29 with (first
              | (go_at_call 20; (with_reducible refine (hM3.out _).mono ?_); rintro e w27 ⟨rfl, nd, hw_⟩; have HS27 := Aside0.mk (show Sep w w27 _ from hw_ ▸ HS95.out.step (pw_below_drewN (Below.refl _ _) nd)); clear hw_)
              | (go_at_call 20; (with_reducible refine (hM4.out _).mono ?_); rintro e w28 ⟨rfl, nd, hw_⟩; have HS28 := Aside0.mk (show Sep w w28 _ from hw_ ▸ HS27.out.step (pw_below_drewN (Below.refl _ _) nd)); clear hw_))
            rw [hfm]
            clear hpi hfm ht3 ht4 hc95 HS95 HS27
            obtain ⟨okf, hokf, hrf, hputf⟩ := HS28.out.up3.open_own
            have HOK := Aside0.mk hokf
            have HRF := Aside0.mk hrf
            have HPF := Aside0.mk hputf
            have hfs : fq ≤ 2002 := by omega
            clear hokf hrf hputf
            go_upto_region 30 with ((with_reducible refine gate_builtin (b := .append) (xs := #[.tmp 158, .tmp 161]) rfl ?_); at_builtin; refine Kd.R_append (Kd.int .i64) (w0 := w28) 0 rfl (.tmp 158) (.tmp 161) 51 3 (.int .i64 0) 8 rfl Try.underlying51 info3 rfl (by decide) (by decide) (.slice A16 q c16) (wf n T a b H i).2 ((fq : Int) - 1) [.int .i64 ((fq : Int) - 1)] okf (fun _ => False) rfl rfl rfl (fun _ hk => hk.elim) HOK.out HRF.out (Below.refl _ _) (Nat.zero_le _) ?aL ?_; (case aL => have h_ := HQ.out; omega); intro v162 w162 ho hb hg hat; have HS162 := Aside0.mk (HPF.out _ _ _ ho hg); clear ho hb hg hat)
            have hx0 := (HS162.out.up3.cell (0 : Int) i HI1.out).1
            rw [← HHV.out] at hx0
            clear HOK HRF HPF HS28
            have HWM := Aside0.mk (wf_more n T a b H i hv q fq HHV.out.symm (by have := HP.out; omega) HQ.out.symm HFQ.out.symm)
            by_cases hf1 : 1 < fq
            · have hf2 : decide (0 < (fq : Int) - 1) = true := decide_eq_true (by omega)
              have hf3 : decide (1 < (fq : Int)) = true := decide_eq_true (by omega)
              have hf4 : decide (1 < fq) = true := decide_eq_true (by omega)
              have HF1 := Aside0.mk hf1
              clear hf1
              go_wp2_with (go_at_call 31; (with_reducible refine (kilnlaw3_mark.calls (i : Int) (min ((fq : Int) - 1) hv) _ _ (mark_ok _ _).1).mono ?_); rintro e w96 ⟨v96, rfl, hr, hb⟩; obtain ⟨A96, c96, e96⟩ := Kd.R_slice hr; rw [(mark_ok _ _).2] at e96; subst e96; have HS96 := Aside0.mk (HS162.out.push_own hr hb).up3; obtain ⟨A_, c_, hsl, hfz, _⟩ := HS96.out.slot i HI1.out; clear hr hb)
              have HS97 := Aside0.mk (show Sep w (w96.setCell ⟨bw, i, none⟩ (.slice A96 512 c96)) [dkT g (S.withR _), ownT KB 28 (.slice (some ⟨bw, 0, none⟩) n cw) (wf n T a b H (i + 1)).1, ownT (Kd.int .i64) 3 (.slice (some ⟨bh, 0, none⟩) n ch) H, ownT (Kd.int .i64) 3 v162 (wf n T a b H (i + 1)).2] from by
                rw [HWM.out, if_pos HF1.out]
                have h_ := (HS96.out.up1.put_row i HI1.out).up2.up3.down2
                rw [List.set_set] at h_
                exact h_)
              clear hsl hfz HS96 hx0
              go_roundg (n - i - 1)
              case measure => have := HI.out; have := HI1.out; omega
              case rel => exact ⟨i + 1, (by have hi_ := HI1.out; have hl_ := hnm; first | rfl | (simp; done)), ⟨by have := HI.out; have := HI1.out; omega⟩, _, HS97⟩
            · have hf2 : decide (0 < (fq : Int) - 1) = false := decide_eq_false (by omega)
              have hf3 : decide (1 < (fq : Int)) = false := decide_eq_false (by omega)
              have hf4 : decide (1 < fq) = false := decide_eq_false (by omega)
              have HF1 := Aside0.mk hf1
              clear hf1
              have HS97 := Aside0.mk (show Sep w w162 [dkT g (S.withR _), ownT KB 28 (.slice (some ⟨bw, 0, none⟩) n cw) (wf n T a b H (i + 1)).1, ownT (Kd.int .i64) 3 (.slice (some ⟨bh, 0, none⟩) n ch) H, ownT (Kd.int .i64) 3 v162 (wf n T a b H (i + 1)).2] from by
                rw [HWM.out, if_neg HF1.out]
                exact HS162.out.down3)
              go_wp2
              go_roundg (n - i - 1)
              case measure => have := HI.out; have := HI1.out; omega
              case rel => exact ⟨i + 1, (by have hi_ := HI1.out; have hl_ := hnm; first | rfl | (simp; done)), ⟨by have := HI.out; have := HI1.out; omega⟩, _, HS97⟩
          · rw [if_neg hp] at hct
            have hpd : decide (0 < hv) = false := decide_eq_false hp
            obtain rfl : hv = 0 := by have := HVB.out; omega
            clear hp hc93 hs93
            obtain ⟨Aw, cw_, hsl, _, hCw, _⟩ := HS93.out.up2.slot i HI1.out
            have hwz : ((wf n T a b H i).1.set i (List.replicate 512 0)).getD i [] = t := by
              have hl := HS93.out.up2.own
              obtain ⟨_, _, hl⟩ := hl
              have hl2 := (Kd.R_reads' hl).1
              have := HI1.out
              rw [List.getD_eq_getElem?_getD, List.getElem?_set_self (by rw [List.length_set] at hl2; omega), hct]
              rfl
            rw [show (512 : Int).toNat = 512 from rfl] at hsl hCw
            rw [hwz] at hsl hCw
            have HK1 := Aside0.mk (fun W (hW : Below w93.heap.size w93 W) => (show W.cell? ⟨bh, i, none⟩ = some (.int .i64 0) ∧ (convert 28 9 v93).run Try.prog W = .ok (.string (strOfNums t)) W ∧ W.cell? ⟨bw, i, none⟩ = some (.slice Aw t.length cw_) ∧ (convert 28 9 (.slice Aw t.length cw_)).run Try.prog W = .ok (.string (strOfNums t)) W from
              ⟨(HK0.out W hW).1, (HK0.out W hW).2, (hW.cell (World.block_lt_of_cell? w93 _ hsl)).trans hsl, Kd.C_string (P := Try.prog) (A := Aw) (c := cw_) Try.underlying28 Try.underlying5 Try.underlying9 (Kd.C_below hCw hW)⟩))
            have HT := Aside0.mk hct
            clear hct hsl hCw hwz
            refine start_ (n := 38) (S := fun W => W.cell? ⟨bh, i, none⟩ = some (.int .i64 0) ∧ (convert 28 9 v93).run Try.prog W = .ok (.string (strOfNums t)) W ∧ W.cell? ⟨bw, i, none⟩ = some (.slice Aw t.length cw_) ∧ (convert 28 9 (.slice Aw t.length cw_)).run Try.prog W = .ok (.string (strOfNums t)) W) (ds := []) (bb 38 0) (by kernel_rfl) rfl rfl (HK1.out _ HB94.out) (fun hHeld => ?_); refine with_tabW great24_tab great24_bits (fun HT_ HW_ => ?_)
            generalize w93.drew = w94 at hHeld HB94 ⊢
            refine pure_ (i := 0) (N := (some 99)) (v := ?_) (a' := ?_) (bb 38 1) rfl rfl (any_of HT_.out (by kernel_rfl)) (fun _ _ _ h => h) (Or.inl ⟨by rfl, ?_⟩) ?_ ?_
            rotate_left
            · intro w'
              go_simp
              with_reducible rfl
            rotate_left
            · simp only [Act.put, List.setIfInBounds_toArray, List.set_cons_zero, List.set_cons_succ, i64_w, i32_w]
              rfl
            refine pure_ (i := 1) (N := (some 100)) (v := ?_) (a' := ?_) (bb 38 3) rfl rfl (any_of HT_.out (by kernel_rfl)) (fun _ _ _ h => h) (Or.inl ⟨by rfl, ?_⟩) ?_ ?_
            rotate_left
            · intro w'
              go_simp
              with_reducible rfl
            rotate_left
            · simp only [Act.put, List.setIfInBounds_toArray, List.set_cons_zero, List.set_cons_succ, i64_w, i32_w]
              rfl
            refine pure_ (i := 2) (N := (some 101)) (v := ?_) (a' := ?_) (bb 38 7) rfl rfl (any_of HT_.out (by kernel_rfl)) (fun _ _ _ h => h) (Or.inl ⟨by rfl, ?_⟩) ?_ ?_
            rotate_left
            · intro w'
              go_simp
              with_reducible rfl
            rotate_left
            · simp only [Act.put, List.setIfInBounds_toArray, List.set_cons_zero, List.set_cons_succ, i64_w, i32_w]
              rfl
            refine pure_ (i := 3) (N := (some 102)) (v := ?_) (a' := ?_) (bb 38 15) rfl rfl (any_of HT_.out (by kernel_rfl)) (fun _ _ _ h => h) (Or.inl ⟨by rfl, ?_⟩) ?_ ?_
            rotate_left
            · intro w'
              go_simp
              with_reducible rfl
            rotate_left
            · simp only [Act.put, List.setIfInBounds_toArray, List.set_cons_zero, List.set_cons_succ, i64_w, i32_w]
              rfl
            refine pure_ (i := 4) (N := (some 103)) (v := ?_) (a' := ?_) (bb 38 31) rfl rfl (any_of HT_.out (by kernel_rfl)) (fun _ _ _ h => h) (Or.inl ⟨by rfl, ?_⟩) ?_ ?_
            rotate_left
            · intro w'
              go_simp
              with_reducible rfl
            rotate_left
            · simp only [Act.put, List.setIfInBounds_toArray, List.set_cons_zero, List.set_cons_succ, i64_w, i32_w]
              rfl
            refine pure_ (i := 5) (N := (some 104)) (v := ?_) (a' := ?_) (bb 38 63) rfl rfl (any_of HT_.out (by kernel_rfl)) (fun _ _ _ h => h) (Or.inl ⟨by rfl, ?_⟩) ?_ ?_
            rotate_left
            · intro w'
              go_simp
              with_reducible rfl
            rotate_left
            · simp only [Act.put, List.setIfInBounds_toArray, List.set_cons_zero, List.set_cons_succ, i64_w, i32_w]
              rfl
            refine take_ (i := 6) (N := (some 105)) (v := ?_) (a' := ?_) (bb 38 127) rfl rfl (take_ofW HT_.out HW_.out (by kernel_rfl)) (fun _ _ _ h => h) (Or.inl ⟨by rfl, ?_⟩) hHeld ?_ ?_
            rotate_left
            · intro w' s0
              (try dsimp only at s0)
              go_simp
              with_reducible rfl
            rotate_left
            · simp only [Act.put, List.setIfInBounds_toArray, List.set_cons_zero, List.set_cons_succ, i64_w, i32_w]
              rfl
            refine pure_ (i := 7) (N := (some 106)) (v := ?_) (a' := ?_) (bb 38 255) rfl rfl (any_of HT_.out (by kernel_rfl)) (fun _ _ _ h => h) (Or.inl ⟨by rfl, ?_⟩) ?_ ?_
            rotate_left
            · intro w'
              go_simp
              with_reducible rfl
            rotate_left
            · simp only [Act.put, List.setIfInBounds_toArray, List.set_cons_zero, List.set_cons_succ, i64_w, i32_w]
              rfl
            refine pure_ (i := 8) (N := (some 107)) (v := ?_) (a' := ?_) (bb 38 511) rfl rfl (any_of HT_.out (by kernel_rfl)) (fun _ _ _ h => h) (Or.inl ⟨by rfl, ?_⟩) ?_ ?_
            rotate_left
            · intro w'
              go_simp
              with_reducible rfl
            rotate_left
            · simp only [Act.put, List.setIfInBounds_toArray, List.set_cons_zero, List.set_cons_succ, i64_w, i32_w]
              rfl
            refine pure_ (i := 9) (N := (some 108)) (v := undef) (a' := ?_) (bb 38 1023) rfl rfl (any_of HT_.out (by kernel_rfl)) (fun _ _ _ h => h) (Or.inr ⟨by rfl, rfl⟩) ?_ ?_
            rotate_left
            · simp only [Act.put, List.setIfInBounds_toArray, List.set_cons_zero, List.set_cons_succ, i64_w, i32_w]
              rfl
            refine pure_ (i := 10) (N := (some 109)) (v := undef) (a' := ?_) (bb 38 2047) rfl rfl (any_of HT_.out (by kernel_rfl)) (fun _ _ _ h => h) (Or.inr ⟨by rfl, rfl⟩) ?_ ?_
            rotate_left
            · simp only [Act.put, List.setIfInBounds_toArray, List.set_cons_zero, List.set_cons_succ, i64_w, i32_w]
              rfl
            refine pure_ (i := 11) (N := (some 110)) (v := undef) (a' := ?_) (bb 38 4095) rfl rfl (any_of HT_.out (by kernel_rfl)) (fun _ _ _ h => h) (Or.inr ⟨by rfl, rfl⟩) ?_ ?_
            rotate_left
            · simp only [Act.put, List.setIfInBounds_toArray, List.set_cons_zero, List.set_cons_succ, i64_w, i32_w]
              rfl
            refine pure_ (i := 12) (N := (some 111)) (v := undef) (a' := ?_) (bb 38 8191) rfl rfl (any_of HT_.out (by kernel_rfl)) (fun _ _ _ h => h) (Or.inr ⟨by rfl, rfl⟩) ?_ ?_
            rotate_left
            · simp only [Act.put, List.setIfInBounds_toArray, List.set_cons_zero, List.set_cons_succ, i64_w, i32_w]
              rfl
            refine pure_ (i := 13) (N := (some 112)) (v := undef) (a' := ?_) (bb 38 16383) rfl rfl (any_of HT_.out (by kernel_rfl)) (fun _ _ _ h => h) (Or.inr ⟨by rfl, rfl⟩) ?_ ?_
            rotate_left
            · simp only [Act.put, List.setIfInBounds_toArray, List.set_cons_zero, List.set_cons_succ, i64_w, i32_w]
              rfl
            refine pure_ (i := 14) (N := (some 113)) (v := undef) (a' := ?_) (bb 38 32767) rfl rfl (any_of HT_.out (by kernel_rfl)) (fun _ _ _ h => h) (Or.inr ⟨by rfl, rfl⟩) ?_ ?_
            rotate_left
            · simp only [Act.put, List.setIfInBounds_toArray, List.set_cons_zero, List.set_cons_succ, i64_w, i32_w]
              rfl
            refine pure_ (i := 15) (N := (some 114)) (v := undef) (a' := ?_) (bb 38 65535) rfl rfl (any_of HT_.out (by kernel_rfl)) (fun _ _ _ h => h) (Or.inr ⟨by rfl, rfl⟩) ?_ ?_
            rotate_left
            · simp only [Act.put, List.setIfInBounds_toArray, List.set_cons_zero, List.set_cons_succ, i64_w, i32_w]
              rfl
            refine pure_ (i := 16) (N := (some 115)) (v := undef) (a' := ?_) (bb 38 131071) rfl rfl (any_of HT_.out (by kernel_rfl)) (fun _ _ _ h => h) (Or.inr ⟨by rfl, rfl⟩) ?_ ?_
            rotate_left
            · simp only [Act.put, List.setIfInBounds_toArray, List.set_cons_zero, List.set_cons_succ, i64_w, i32_w]
              rfl
            refine pure_ (i := 17) (N := (some 116)) (v := undef) (a' := ?_) (bb 38 262143) rfl rfl (any_of HT_.out (by kernel_rfl)) (fun _ _ _ h => h) (Or.inr ⟨by rfl, rfl⟩) ?_ ?_
            rotate_left
            · simp only [Act.put, List.setIfInBounds_toArray, List.set_cons_zero, List.set_cons_succ, i64_w, i32_w]
              rfl
            refine pure_ (i := 18) (N := (some 117)) (v := undef) (a' := ?_) (bb 38 524287) rfl rfl (any_of HT_.out (by kernel_rfl)) (fun _ _ _ h => h) (Or.inr ⟨by rfl, rfl⟩) ?_ ?_
            rotate_left
            · simp only [Act.put, List.setIfInBounds_toArray, List.set_cons_zero, List.set_cons_succ, i64_w, i32_w]
              rfl
            refine pure_ (i := 19) (N := (some 118)) (v := ?_) (a' := ?_) (bb 38 1048575) rfl rfl (any_of HT_.out (by kernel_rfl)) (fun _ _ _ h => h) (Or.inl ⟨by rfl, ?_⟩) ?_ ?_
            rotate_left
            · intro w'
              go_simp
              with_reducible rfl
            rotate_left
            · simp only [Act.put, List.setIfInBounds_toArray, List.set_cons_zero, List.set_cons_succ, i64_w, i32_w]
              rfl
            refine pure_ (i := 20) (N := (some 119)) (v := ?_) (a' := ?_) (bb 38 2097151) rfl rfl (any_of HT_.out (by kernel_rfl)) (fun _ _ _ h => h) (Or.inl ⟨by rfl, ?_⟩) ?_ ?_
            rotate_left
            · intro w'
              go_simp
              with_reducible rfl
            rotate_left
            · simp only [Act.put, List.setIfInBounds_toArray, List.set_cons_zero, List.set_cons_succ, i64_w, i32_w]
              rfl
            refine pure_ (i := 21) (N := (some 120)) (v := ?_) (a' := ?_) (bb 38 4194303) rfl rfl (any_of HT_.out (by kernel_rfl)) (fun _ _ _ h => h) (Or.inl ⟨by rfl, ?_⟩) ?_ ?_
            rotate_left
            · intro w'
              go_simp
              with_reducible rfl
            rotate_left
            · simp only [Act.put, List.setIfInBounds_toArray, List.set_cons_zero, List.set_cons_succ, i64_w, i32_w]
              rfl
            refine pure_ (i := 22) (N := (some 121)) (v := ?_) (a' := ?_) (bb 38 8388607) rfl rfl (any_of HT_.out (by kernel_rfl)) (fun _ _ _ h => h) (Or.inl ⟨by rfl, ?_⟩) ?_ ?_
            rotate_left
            · intro w'
              go_simp
              with_reducible rfl
            rotate_left
            · simp only [Act.put, List.setIfInBounds_toArray, List.set_cons_zero, List.set_cons_succ, i64_w, i32_w]
              rfl
            refine pure_ (i := 23) (N := (some 122)) (v := ?_) (a' := ?_) (bb 38 16777215) rfl rfl (any_of HT_.out (by kernel_rfl)) (fun _ _ _ h => h) (Or.inl ⟨by rfl, ?_⟩) ?_ ?_
            rotate_left
            · intro w'
              go_simp
              with_reducible rfl
            rotate_left
            · simp only [Act.put, List.setIfInBounds_toArray, List.set_cons_zero, List.set_cons_succ, i64_w, i32_w]
              rfl
            refine pure_ (i := 24) (N := (some 123)) (v := ?_) (a' := ?_) (bb 38 33554431) rfl rfl (any_of HT_.out (by kernel_rfl)) (fun _ _ _ h => h) (Or.inl ⟨by rfl, ?_⟩) ?_ ?_
            rotate_left
            · intro w'
              go_simp
              with_reducible rfl
            rotate_left
            · simp only [Act.put, List.setIfInBounds_toArray, List.set_cons_zero, List.set_cons_succ, i64_w, i32_w]
              rfl
            refine take_ (i := 25) (N := (some 124)) (v := ?_) (a' := ?_) (bb 38 67108863) rfl rfl (take_ofW HT_.out HW_.out (by kernel_rfl)) (fun _ _ _ h => h) (Or.inl ⟨by rfl, ?_⟩) hHeld ?_ ?_
            rotate_left
            · intro w' s0
              (try dsimp only at s0)
              go_simp
              with_reducible rfl
            rotate_left
            · simp only [Act.put, List.setIfInBounds_toArray, List.set_cons_zero, List.set_cons_succ, i64_w, i32_w]
              rfl
            refine pure_ (i := 26) (N := (some 125)) (v := ?_) (a' := ?_) (bb 38 134217727) rfl rfl (any_of HT_.out (by kernel_rfl)) (fun _ _ _ h => h) (Or.inl ⟨by rfl, ?_⟩) ?_ ?_
            rotate_left
            · intro w'
              go_simp
              with_reducible rfl
            rotate_left
            · simp only [Act.put, List.setIfInBounds_toArray, List.set_cons_zero, List.set_cons_succ, i64_w, i32_w]
              rfl
            refine pure_ (i := 27) (N := (some 126)) (v := ?_) (a' := ?_) (bb 38 268435455) rfl rfl (any_of HT_.out (by kernel_rfl)) (fun _ _ _ h => h) (Or.inl ⟨by rfl, ?_⟩) ?_ ?_
            rotate_left
            · intro w'
              go_simp
              with_reducible rfl
            rotate_left
            · simp only [Act.put, List.setIfInBounds_toArray, List.set_cons_zero, List.set_cons_succ, i64_w, i32_w]
              rfl
            refine pure_ (i := 28) (N := (some 127)) (v := ?_) (a' := ?_) (bb 38 536870911) rfl rfl (any_of HT_.out (by kernel_rfl)) (fun _ _ _ h => h) (Or.inl ⟨by rfl, ?_⟩) ?_ ?_
            rotate_left
            · intro w'
              go_simp
              with_reducible rfl
            rotate_left
            · simp only [Act.put, List.setIfInBounds_toArray, List.set_cons_zero, List.set_cons_succ, i64_w, i32_w]
              rfl
            refine take_ (i := 29) (N := (some 128)) (v := ?_) (a' := ?_) (bb 38 1073741823) rfl rfl (take_ofW HT_.out HW_.out (by kernel_rfl)) (fun _ _ _ h => h) (Or.inl ⟨by rfl, ?_⟩) hHeld ?_ ?_
            rotate_left
            · intro w' s0
              (try dsimp only at s0)
              go_simp
              with_reducible rfl
            rotate_left
            · simp only [Act.put, List.setIfInBounds_toArray, List.set_cons_zero, List.set_cons_succ, i64_w, i32_w]
              rfl
            refine pure_ (i := 30) (N := (some 129)) (v := ?_) (a' := ?_) (bb 38 2147483647) rfl rfl (any_of HT_.out (by kernel_rfl)) (fun _ _ _ h => h) (Or.inl ⟨by rfl, ?_⟩) ?_ ?_
            rotate_left
            · intro w'
              go_simp
              with_reducible rfl
            rotate_left
            · simp only [Act.put, List.setIfInBounds_toArray, List.set_cons_zero, List.set_cons_succ, i64_w, i32_w]
              rfl
            refine pure_ (i := 31) (N := (some 130)) (v := ?_) (a' := ?_) (bb 38 4294967295) rfl rfl (any_of HT_.out (by kernel_rfl)) (fun _ _ _ h => h) (Or.inl ⟨by rfl, ?_⟩) ?_ ?_
            rotate_left
            · intro w'
              go_simp
              with_reducible rfl
            rotate_left
            · simp only [Act.put, List.setIfInBounds_toArray, List.set_cons_zero, List.set_cons_succ, i64_w, i32_w]
              rfl
            refine pure_ (i := 32) (N := (some 131)) (v := ?_) (a' := ?_) (bb 38 8589934591) rfl rfl (any_of HT_.out (by kernel_rfl)) (fun _ _ _ h => h) (Or.inl ⟨by rfl, ?_⟩) ?_ ?_
            rotate_left
            · intro w'
              go_simp
              with_reducible rfl
            rotate_left
            · simp only [Act.put, List.setIfInBounds_toArray, List.set_cons_zero, List.set_cons_succ, i64_w, i32_w]
              rfl
            refine take_ (i := 33) (N := (some 132)) (v := ?_) (a' := ?_) (bb 38 17179869183) rfl rfl (take_ofW HT_.out HW_.out (by kernel_rfl)) (fun _ _ _ h => h) (Or.inl ⟨by rfl, ?_⟩) hHeld ?_ ?_
            rotate_left
            · intro w' s0
              (try dsimp only at s0)
              go_simp
              with_reducible rfl
            rotate_left
            · simp only [Act.put, List.setIfInBounds_toArray, List.set_cons_zero, List.set_cons_succ, i64_w, i32_w]
              rfl
            refine take_ (i := 34) (N := (some 133)) (v := ?_) (a' := ?_) (bb 38 34359738367) rfl rfl (take_ofW HT_.out HW_.out (by kernel_rfl)) (fun _ _ _ h => h) (Or.inl ⟨by rfl, ?_⟩) hHeld ?_ ?_
            rotate_left
            · intro w' s0
              (try dsimp only at s0)
              go_simp
              with_reducible rfl
            rotate_left
            · simp only [Act.put, List.setIfInBounds_toArray, List.set_cons_zero, List.set_cons_succ, i64_w, i32_w]
              rfl
            refine pure_ (i := 35) (N := (some 134)) (v := ?_) (a' := ?_) (bb 38 68719476735) rfl rfl (any_of HT_.out (by kernel_rfl)) (fun _ _ _ h => h) (Or.inl ⟨by rfl, ?_⟩) ?_ ?_
            rotate_left
            · intro w'
              go_simp
              with_reducible rfl
            rotate_left
            · simp only [Act.put, List.setIfInBounds_toArray, List.set_cons_zero, List.set_cons_succ, i64_w, i32_w]
              rfl
            refine pure_ (i := 36) (N := (some 135)) (v := ?_) (a' := ?_) (bb 38 137438953471) rfl rfl (any_of HT_.out (by kernel_rfl)) (fun _ _ _ h => h) (Or.inl ⟨by rfl, ?_⟩) ?_ ?_
            rotate_left
            · intro w'
              go_simp
              with_reducible rfl
            rotate_left
            · simp only [Act.put, List.setIfInBounds_toArray, List.set_cons_zero, List.set_cons_succ, i64_w, i32_w]
              rfl
            refine pure_ (i := 37) (N := (some 136)) (v := ?_) (a' := ?_) (bb 38 274877906943) rfl rfl (any_of HT_.out (by kernel_rfl)) (fun _ _ _ h => h) (Or.inl ⟨by rfl, ?_⟩) ?_ ?_
            rotate_left
            · intro w'
              go_simp
              with_reducible rfl
            rotate_left
            · simp only [Act.put, List.setIfInBounds_toArray, List.set_cons_zero, List.set_cons_succ, i64_w, i32_w]
              rfl
            refine done_ (done_of HT_.out (by kernel_rfl)) ?_
            have HS94 := Aside0.mk (show Sep w w94 [dkT g (S.withR _), ownT KB 28 (.slice (some ⟨bw, 0, none⟩) n cw) (wf n T a b H (i + 1)).1, ownT (Kd.int .i64) 3 (.slice (some ⟨bh, 0, none⟩) n ch) H, ownT (Kd.int .i64) 3 u16 (wf n T a b H (i + 1)).2] from by
              rw [wf_zero n T a b H i HHV.out.symm]
              exact (HS93.out.step HB94.out).drop)
            have hc94 := (HK1.out _ HB94.out).1
            clear hHeld HS93 HK0 HK1 HB94 c9b0 c9b1
            go_wp2
            go_roundg (n - i - 1)
            case measure => have := HI.out; have := HI1.out; omega
            case rel => exact ⟨i + 1, (by have hi_ := HI1.out; have hl_ := hnm; first | rfl | (simp; done)), ⟨by have := HI.out; have := HI1.out; omega⟩, _, HS94⟩
        · have hib : decide (i < n) = false := decide_eq_false hi
          obtain rfl : n = i := by have := HI.out; omega
          clear hi
          have HS4 := Aside0.mk HS.out.up3.up3.drop
          have HC0 := Aside0.mk (show ∀ i, i < n → ((S.withR r).crash (wf n T a b H n).2).L.getD i [] = (wf n T a b H n).1.getD i [] from by rw [crash_withR]; exact HCR.out)
          have HN0 := Aside0.mk (show (S.withR r).n = n from HSn.out)
          have HC1 := Aside0.mk (show (S.withR r).c < 1073741824 from HSc.out)
          clear HS HCR HCUR HHB HSn HSc HHl hM3 hM4
          generalize (wf n T a b H n).2 = fs at *
          generalize (wf n T a b H n).1 = wt at *
          generalize S.withR r = s0 at *
          clear hjb hib
          go_wp2
          go_loopg [21] 2 (fun kq v21 wr => ∃ k : Nat, v21 = .int .i64 k ∧ Aside0 (k + kq = 2) ∧ ∃ s, Aside0 (Sep w wr [ownT (Kd.int .i64) 3 u16 fs, dkT g s, ownT KB 28 (.slice (some ⟨bw, 0, none⟩) n cw) wt]) ∧ Aside0 (s.n = n) ∧ Aside0 (s.c < 1073741824) ∧ Aside0 (∀ i, i < n → (s.crash fs).L.getD i [] = wt.getD i []))
          case atStart => exact ⟨0, rfl, ⟨Nat.zero_add _⟩, s0, HS4, HN0, HC1, HC0⟩
          case round =>
            clear HS4 HC0 HC1 HN0 s0
            obtain ⟨k, rfl, HK0, s, HS, HN, HC, HL⟩ := hrel
            have hk2 : k ≤ 2 := by have := HK0.out; omega
            by_cases hk : k < 2
            · have hkb : decide ((k : Int) < 2) = true := decide_eq_true (by omega)
              have HKK := Aside0.mk hk
              clear hk
              have HCRH := Aside0.mk (Sep.crash_own fs u16 HS.out HC.out)
              have HIMG := Aside0.mk (fun W (h : Sep w W (dkT g (s.crash fs) :: [ownT (Kd.int .i64) 3 u16 fs, ownT KB 28 (.slice (some ⟨bw, 0, none⟩) n cw) wt])) => (show Calls Try.prog 26 #[.pointer (some ⟨g, 0, none⟩)] W (fun e w' => ∃ go c, e = .returned (.slice (some ⟨go, 0, none⟩) n c) ∧ Sep w w' (rowsT KB 28 (.slice (some ⟨go, 0, none⟩) n c) (s.crash fs).L :: dkT g (s.crash fs) :: [ownT (Kd.int .i64) 3 u16 fs, ownT KB 28 (.slice (some ⟨bw, 0, none⟩) n cw) wt])) from by
                have h_ := Sep.image h
                rw [show (s.crash fs).n = n from HN.out] at h_
                exact h_))
              have hnn : ((n : Int) != (n : Int)) = false := bne_eq_false_iff_eq.mpr rfl
              go_wp2_with (first
                | (go_at_call 30; (with_reducible refine HCRH.out.mono ?_); rintro e w30 ⟨⟨v30, rfl⟩, h⟩; have HS30 := Aside0.mk h.up1; clear h)
                | (go_at_call 26; (with_reducible refine (HIMG.out _ HS30.out).mono ?_); rintro e w26 ⟨bi, ci, rfl, h⟩; have HS26 := Aside0.mk h.rows_own.up1; clear h))
              generalize hsc : s.crash fs = sc at *
              have hW0 : sc.W = fun _ => [] := by rw [← hsc]; rfl
              have hcn : sc.n = n := by rw [← hsc]; exact HN.out
              have hcl : sc.L.length = n := by
                have h_ := HS26.out.dk_lasts.1
                rw [hcn] at h_
                exact h_
              have HW0 := Aside0.mk hW0
              have HCN := Aside0.mk hcn
              have HCL := Aside0.mk hcl
              have HCC := Aside0.mk (show sc.c = 0 from by rw [← hsc]; rfl)
              clear hsc hW0 hcn hcl HCRH HIMG HS HN HC HS30
              go_loopg [23] n (fun kq v23 wr => ∃ i : Nat, v23 = .int .i64 i ∧ Aside0 (i + kq = n) ∧ ∃ r, Aside0 (Sep w wr [dkT g (sc.withR r), ownT KB 28 (.slice (some ⟨bi, 0, none⟩) n ci) sc.L, ownT (Kd.int .i64) 3 u16 fs, ownT KB 28 (.slice (some ⟨bw, 0, none⟩) n cw) wt]))
              case atStart => exact ⟨0, rfl, ⟨Nat.zero_add _⟩, sc.r, HS26⟩
              case round =>
                clear HS26
                obtain ⟨i, rfl, HI, r, HS⟩ := hrel
                rename World => wq
                by_cases hi : i < n
                · have hib : decide (i < n) = true := decide_eq_true hi
                  have hi0 : (0 : Int) ≤ (i : Int) := by omega
                  have hi1 : (i : Int) < (n : Int) := by omega
                  have HI1 := Aside0.mk hi
                  have hcu : (sc.withR r).cur i = sc.L.getD i [] := by
                    have h_ : (sc.withR r).W i = [] := by show sc.W i = []; rw [HW0.out]
                    rw [cur_nil h_]; rfl
                  have HRD := Aside0.mk (Sep.read HS.out i (by show i < sc.n; rw [HCN.out]; exact hi))
                  rw [hcu] at HRD
                  clear hi hcu
                  go_upto_region 43 with (go_at_call 25; (with_reducible refine HRD.out.mono ?_); rintro e w42 ⟨v42, rfl, h⟩; have HS42 := Aside0.mk h; clear h)
                  clear HRD HS
                  have hti := HL.out i HI1.out
                  obtain ⟨t, ht⟩ : ∃ x, x = sc.L.getD i [] := ⟨_, rfl⟩
                  obtain ⟨Aw, cw_, hw1, _, hw2, _⟩ := HS42.out.up4.slot i HI1.out
                  obtain ⟨Ai, ci_, hi1_, _, hi2_, _⟩ := HS42.out.up2.slot i HI1.out
                  rw [← hti, ← ht] at hw1 hw2
                  rw [← ht] at hi1_ hi2_ HS42
                  have HK := Aside0.mk (fun W (hW : Below w42.heap.size w42 W) => (show (convert 28 9 v42).run Try.prog W = .ok (.string (strOfNums t)) W ∧ (W.cell? ⟨bw, i, none⟩ = some (.slice Aw t.length cw_) ∧ (convert 28 9 (.slice Aw t.length cw_)).run Try.prog W = .ok (.string (strOfNums t)) W) ∧ (W.cell? ⟨bi, i, none⟩ = some (.slice Ai t.length ci_) ∧ (convert 28 9 (.slice Ai t.length ci_)).run Try.prog W = .ok (.string (strOfNums t)) W) from by
                    obtain ⟨_, _, hr_⟩ := (HS42.out.step hW).own
                    exact ⟨own_string (P := Try.prog) Try.underlying28 Try.underlying5 Try.underlying9 (Kd.own_of_R hr_), ⟨(hW.cell (World.block_lt_of_cell? w42 _ hw1)).trans hw1, Kd.C_string (P := Try.prog) (A := Aw) (c := cw_) Try.underlying28 Try.underlying5 Try.underlying9 (Kd.C_below hw2 hW)⟩, (hW.cell (World.block_lt_of_cell? w42 _ hi1_)).trans hi1_, Kd.C_string (P := Try.prog) (A := Ai) (c := ci_) Try.underlying28 Try.underlying5 Try.underlying9 (Kd.C_below hi2_ hW)⟩))
                  have HB43 := Aside0.mk (below_drew1 (Below.refl w42.heap.size w42))
                  have c9b0 : ((strOfNums t).toList == (strOfNums t).toList) = true := beq_iff_eq.mpr rfl
                  have c9b1 : ((strOfNums t).toList != (strOfNums t).toList) = false := bne_eq_false_iff_eq.mpr rfl
                  clear hw1 hw2 hi1_ hi2_ hti ht
                  refine start_ (n := 25) (S := fun W => (convert 28 9 v42).run Try.prog W = .ok (.string (strOfNums t)) W ∧ (W.cell? ⟨bw, i, none⟩ = some (.slice Aw t.length cw_) ∧ (convert 28 9 (.slice Aw t.length cw_)).run Try.prog W = .ok (.string (strOfNums t)) W) ∧ (W.cell? ⟨bi, i, none⟩ = some (.slice Ai t.length ci_) ∧ (convert 28 9 (.slice Ai t.length ci_)).run Try.prog W = .ok (.string (strOfNums t)) W)) (ds := []) (bb 25 0) (by kernel_rfl) rfl rfl (HK.out _ HB43.out) (fun hHeld => ?_); refine with_tabW great43_tab great43_bits (fun HT_ HW_ => ?_)
                  generalize w42.drew = w43 at hHeld HB43 ⊢
                  refine pure_ (i := 0) (N := (some 202)) (v := ?_) (a' := ?_) (bb 25 1) rfl rfl (any_of HT_.out (by kernel_rfl)) (fun _ _ _ h => h) (Or.inl ⟨by rfl, ?_⟩) ?_ ?_
                  rotate_left
                  · intro w'
                    go_simp
                    with_reducible rfl
                  rotate_left
                  · simp only [Act.put, List.setIfInBounds_toArray, List.set_cons_zero, List.set_cons_succ, i64_w, i32_w]
                    rfl
                  refine pure_ (i := 1) (N := (some 203)) (v := ?_) (a' := ?_) (bb 25 3) rfl rfl (any_of HT_.out (by kernel_rfl)) (fun _ _ _ h => h) (Or.inl ⟨by rfl, ?_⟩) ?_ ?_
                  rotate_left
                  · intro w'
                    go_simp
                    with_reducible rfl
                  rotate_left
                  · simp only [Act.put, List.setIfInBounds_toArray, List.set_cons_zero, List.set_cons_succ, i64_w, i32_w]
                    rfl
                  refine pure_ (i := 2) (N := (some 204)) (v := ?_) (a' := ?_) (bb 25 7) rfl rfl (any_of HT_.out (by kernel_rfl)) (fun _ _ _ h => h) (Or.inl ⟨by rfl, ?_⟩) ?_ ?_
                  rotate_left
                  · intro w'
                    go_simp
                    with_reducible rfl
                  rotate_left
                  · simp only [Act.put, List.setIfInBounds_toArray, List.set_cons_zero, List.set_cons_succ, i64_w, i32_w]
                    rfl
                  refine pure_ (i := 3) (N := (some 205)) (v := ?_) (a' := ?_) (bb 25 15) rfl rfl (any_of HT_.out (by kernel_rfl)) (fun _ _ _ h => h) (Or.inl ⟨by rfl, ?_⟩) ?_ ?_
                  rotate_left
                  · intro w'
                    go_simp
                    with_reducible rfl
                  rotate_left
                  · simp only [Act.put, List.setIfInBounds_toArray, List.set_cons_zero, List.set_cons_succ, i64_w, i32_w]
                    rfl
                  refine take_ (i := 4) (N := (some 206)) (v := ?_) (a' := ?_) (bb 25 31) rfl rfl (take_ofW HT_.out HW_.out (by kernel_rfl)) (fun _ _ _ h => h) (Or.inl ⟨by rfl, ?_⟩) hHeld ?_ ?_
                  rotate_left
                  · intro w' s0
                    (try dsimp only at s0)
                    go_simp
                    with_reducible rfl
                  rotate_left
                  · simp only [Act.put, List.setIfInBounds_toArray, List.set_cons_zero, List.set_cons_succ, i64_w, i32_w]
                    rfl
                  refine pure_ (i := 5) (N := (some 207)) (v := ?_) (a' := ?_) (bb 25 63) rfl rfl (any_of HT_.out (by kernel_rfl)) (fun _ _ _ h => h) (Or.inl ⟨by rfl, ?_⟩) ?_ ?_
                  rotate_left
                  · intro w'
                    go_simp
                    with_reducible rfl
                  rotate_left
                  · simp only [Act.put, List.setIfInBounds_toArray, List.set_cons_zero, List.set_cons_succ, i64_w, i32_w]
                    rfl
                  refine pure_ (i := 6) (N := (some 208)) (v := ?_) (a' := ?_) (bb 25 127) rfl rfl (any_of HT_.out (by kernel_rfl)) (fun _ _ _ h => h) (Or.inl ⟨by rfl, ?_⟩) ?_ ?_
                  rotate_left
                  · intro w'
                    go_simp
                    with_reducible rfl
                  rotate_left
                  · simp only [Act.put, List.setIfInBounds_toArray, List.set_cons_zero, List.set_cons_succ, i64_w, i32_w]
                    rfl
                  refine pure_ (i := 7) (N := (some 209)) (v := ?_) (a' := ?_) (bb 25 255) rfl rfl (any_of HT_.out (by kernel_rfl)) (fun _ _ _ h => h) (Or.inl ⟨by rfl, ?_⟩) ?_ ?_
                  rotate_left
                  · intro w'
                    go_simp
                    with_reducible rfl
                  rotate_left
                  · simp only [Act.put, List.setIfInBounds_toArray, List.set_cons_zero, List.set_cons_succ, i64_w, i32_w]
                    rfl
                  refine take_ (i := 8) (N := (some 210)) (v := ?_) (a' := ?_) (bb 25 511) rfl rfl (take_ofW HT_.out HW_.out (by kernel_rfl)) (fun _ _ _ h => h) (Or.inl ⟨by rfl, ?_⟩) hHeld ?_ ?_
                  rotate_left
                  · intro w' s0
                    (try dsimp only at s0)
                    go_simp
                    with_reducible rfl
                  rotate_left
                  · simp only [Act.put, List.setIfInBounds_toArray, List.set_cons_zero, List.set_cons_succ, i64_w, i32_w]
                    rfl
                  refine take_ (i := 9) (N := (some 211)) (v := ?_) (a' := ?_) (bb 25 1023) rfl rfl (take_ofW HT_.out HW_.out (by kernel_rfl)) (fun _ _ _ h => h) (Or.inl ⟨by rfl, ?_⟩) hHeld ?_ ?_
                  rotate_left
                  · intro w' s0
                    (try dsimp only at s0)
                    go_simp
                    with_reducible rfl
                  rotate_left
                  · simp only [Act.put, List.setIfInBounds_toArray, List.set_cons_zero, List.set_cons_succ, i64_w, i32_w]
                    rfl
                  refine pure_ (i := 10) (N := (some 212)) (v := ?_) (a' := ?_) (bb 25 2047) rfl rfl (any_of HT_.out (by kernel_rfl)) (fun _ _ _ h => h) (Or.inl ⟨by rfl, ?_⟩) ?_ ?_
                  rotate_left
                  · intro w'
                    go_simp
                    with_reducible rfl
                  rotate_left
                  · simp only [Act.put, List.setIfInBounds_toArray, List.set_cons_zero, List.set_cons_succ, i64_w, i32_w]
                    rfl
                  refine pure_ (i := 11) (N := (some 213)) (v := ?_) (a' := ?_) (bb 25 4095) rfl rfl (any_of HT_.out (by kernel_rfl)) (fun _ _ _ h => h) (Or.inl ⟨by rfl, ?_⟩) ?_ ?_
                  rotate_left
                  · intro w'
                    go_simp
                    with_reducible rfl
                  rotate_left
                  · simp only [Act.put, List.setIfInBounds_toArray, List.set_cons_zero, List.set_cons_succ, i64_w, i32_w]
                    rfl
                  refine pure_ (i := 12) (N := (some 214)) (v := ?_) (a' := ?_) (bb 25 8191) rfl rfl (any_of HT_.out (by kernel_rfl)) (fun _ _ _ h => h) (Or.inl ⟨by rfl, ?_⟩) ?_ ?_
                  rotate_left
                  · intro w'
                    go_simp
                    with_reducible rfl
                  rotate_left
                  · simp only [Act.put, List.setIfInBounds_toArray, List.set_cons_zero, List.set_cons_succ, i64_w, i32_w]
                    rfl
                  refine pure_ (i := 13) (N := (some 215)) (v := ?_) (a' := ?_) (bb 25 16383) rfl rfl (any_of HT_.out (by kernel_rfl)) (fun _ _ _ h => h) (Or.inl ⟨by rfl, ?_⟩) ?_ ?_
                  rotate_left
                  · intro w'
                    go_simp
                    with_reducible rfl
                  rotate_left
                  · simp only [Act.put, List.setIfInBounds_toArray, List.set_cons_zero, List.set_cons_succ, i64_w, i32_w]
                    rfl
                  refine pure_ (i := 14) (N := (some 216)) (v := ?_) (a' := ?_) (bb 25 32767) rfl rfl (any_of HT_.out (by kernel_rfl)) (fun _ _ _ h => h) (Or.inl ⟨by rfl, ?_⟩) ?_ ?_
                  rotate_left
                  · intro w'
                    go_simp
                    with_reducible rfl
                  rotate_left
                  · simp only [Act.put, List.setIfInBounds_toArray, List.set_cons_zero, List.set_cons_succ, i64_w, i32_w]
                    rfl
                  refine pure_ (i := 15) (N := (some 217)) (v := ?_) (a' := ?_) (bb 25 65535) rfl rfl (any_of HT_.out (by kernel_rfl)) (fun _ _ _ h => h) (Or.inl ⟨by rfl, ?_⟩) ?_ ?_
                  rotate_left
                  · intro w'
                    go_simp
                    with_reducible rfl
                  rotate_left
                  · simp only [Act.put, List.setIfInBounds_toArray, List.set_cons_zero, List.set_cons_succ, i64_w, i32_w]
                    rfl
                  refine take_ (i := 16) (N := (some 218)) (v := ?_) (a' := ?_) (bb 25 131071) rfl rfl (take_ofW HT_.out HW_.out (by kernel_rfl)) (fun _ _ _ h => h) (Or.inl ⟨by rfl, ?_⟩) hHeld ?_ ?_
                  rotate_left
                  · intro w' s0
                    (try dsimp only at s0)
                    go_simp
                    with_reducible rfl
                  rotate_left
                  · simp only [Act.put, List.setIfInBounds_toArray, List.set_cons_zero, List.set_cons_succ, i64_w, i32_w]
                    rfl
                  refine take_ (i := 17) (N := (some 219)) (v := ?_) (a' := ?_) (bb 25 262143) rfl rfl (take_ofW HT_.out HW_.out (by kernel_rfl)) (fun _ _ _ h => h) (Or.inl ⟨by rfl, ?_⟩) hHeld ?_ ?_
                  rotate_left
                  · intro w' s0
                    (try dsimp only at s0)
                    go_simp
                    with_reducible rfl
                  rotate_left
                  · simp only [Act.put, List.setIfInBounds_toArray, List.set_cons_zero, List.set_cons_succ, i64_w, i32_w]
                    rfl
                  refine pure_ (i := 18) (N := (some 220)) (v := ?_) (a' := ?_) (bb 25 524287) rfl rfl (any_of HT_.out (by kernel_rfl)) (fun _ _ _ h => h) (Or.inl ⟨by rfl, ?_⟩) ?_ ?_
                  rotate_left
                  · intro w'
                    go_simp
                    with_reducible rfl
                  rotate_left
                  · simp only [Act.put, List.setIfInBounds_toArray, List.set_cons_zero, List.set_cons_succ, i64_w, i32_w]
                    rfl
                  refine pure_ (i := 19) (N := (some 221)) (v := ?_) (a' := ?_) (bb 25 1048575) rfl rfl (any_of HT_.out (by kernel_rfl)) (fun _ _ _ h => h) (Or.inl ⟨by rfl, ?_⟩) ?_ ?_
                  rotate_left
                  · intro w'
                    go_simp
                    with_reducible rfl
                  rotate_left
                  · simp only [Act.put, List.setIfInBounds_toArray, List.set_cons_zero, List.set_cons_succ, i64_w, i32_w]
                    rfl
                  refine pure_ (i := 20) (N := (some 222)) (v := ?_) (a' := ?_) (bb 25 2097151) rfl rfl (any_of HT_.out (by kernel_rfl)) (fun _ _ _ h => h) (Or.inl ⟨by rfl, ?_⟩) ?_ ?_
                  rotate_left
                  · intro w'
                    go_simp
                    with_reducible rfl
                  rotate_left
                  · simp only [Act.put, List.setIfInBounds_toArray, List.set_cons_zero, List.set_cons_succ, i64_w, i32_w]
                    rfl
                  refine take_ (i := 21) (N := (some 223)) (v := ?_) (a' := ?_) (bb 25 4194303) rfl rfl (take_ofW HT_.out HW_.out (by kernel_rfl)) (fun _ _ _ h => h) (Or.inl ⟨by rfl, ?_⟩) hHeld ?_ ?_
                  rotate_left
                  · intro w' s0
                    (try dsimp only at s0)
                    go_simp
                    with_reducible rfl
                  rotate_left
                  · simp only [Act.put, List.setIfInBounds_toArray, List.set_cons_zero, List.set_cons_succ, i64_w, i32_w]
                    rfl
                  refine take_ (i := 22) (N := (some 224)) (v := ?_) (a' := ?_) (bb 25 8388607) rfl rfl (take_ofW HT_.out HW_.out (by kernel_rfl)) (fun _ _ _ h => h) (Or.inl ⟨by rfl, ?_⟩) hHeld ?_ ?_
                  rotate_left
                  · intro w' s0
                    (try dsimp only at s0)
                    go_simp
                    with_reducible rfl
                  rotate_left
                  · simp only [Act.put, List.setIfInBounds_toArray, List.set_cons_zero, List.set_cons_succ, i64_w, i32_w]
                    rfl
                  refine pure_ (i := 23) (N := (some 225)) (v := ?_) (a' := ?_) (bb 25 16777215) rfl rfl (any_of HT_.out (by kernel_rfl)) (fun _ _ _ h => h) (Or.inl ⟨by rfl, ?_⟩) ?_ ?_
                  rotate_left
                  · intro w'
                    go_simp
                    with_reducible rfl
                  rotate_left
                  · simp only [Act.put, List.setIfInBounds_toArray, List.set_cons_zero, List.set_cons_succ, i64_w, i32_w]
                    rfl
                  refine pure_ (i := 24) (N := (some 226)) (v := ?_) (a' := ?_) (bb 25 33554431) rfl rfl (any_of HT_.out (by kernel_rfl)) (fun _ _ _ h => h) (Or.inl ⟨by rfl, ?_⟩) ?_ ?_
                  rotate_left
                  · intro w'
                    go_simp
                    with_reducible rfl
                  rotate_left
                  · simp only [Act.put, List.setIfInBounds_toArray, List.set_cons_zero, List.set_cons_succ, i64_w, i32_w]
                    rfl
                  refine done_ (done_of HT_.out (by kernel_rfl)) ?_
                  have HSe := Aside0.mk (HS42.out.step HB43.out).drop
                  clear hHeld HK HB43 HS42 c9b0 c9b1
                  go_wp2
                  go_roundg (n - i - 1)
                  case measure => have := HI.out; have := HI1.out; omega
                  case rel => exact ⟨i + 1, (by have hi_ := HI1.out; have hl_ := hnm; first | rfl | (simp; done)), ⟨by have := HI.out; have := HI1.out; omega⟩, _, HSe⟩
                · have hib : decide (i < n) = false := decide_eq_false hi
                  clear hi
                  go_wp2
                  go_roundg (2 - k - 1)
                  case measure => have := HK0.out; have := HKK.out; omega
                  case rel => exact ⟨k + 1, (by have hi_ := HKK.out; first | rfl | (simp; done)), ⟨by have := HK0.out; have := HKK.out; omega⟩, sc.withR r, ⟨HS.out.up1.drop.up1⟩, HCN, ⟨by show sc.c < _; rw [HCC.out]; decide⟩, ⟨fun i hi => by rw [crash_none _ _ (show (sc.withR r).W = fun _ => [] from HW0.out)]; exact HL.out i hi⟩⟩
            · have hkb : decide ((k : Int) < 2) = false := decide_eq_false (by omega)
              go_wp2
              go_ret
              exact ⟨rfl, HS.out.below⟩
end Go.Proofs.Ytddnhcnkjcdfgaa.M

namespace Go.Proofs.Ytddnhcnkjcdfgaa.M
open Go.RowKit Go.Maps Go.Proofs.YtddnhcnkjcdfgaaW.PrintWords Go.Proofs.YtddnhcnkjcdfgaaW.PrintLast Go.Proofs.YtddnhcnkjcdfgaaW.PrintMore
open Go.Proofs.Ytddnhcnkjcdfgaa.P
set_option linter.unusedVariables false
set_option linter.unusedSimpArgs false
def wrL (T i : Nat) : Nat → List (List Int)
  | 0 => []
  | j + 1 => if skp T i (j + 1) then wrL T i j else wrL T i j ++ [markL (i : Int) ((j + 1 : Nat) : Int)]
def hlN (T i : Nat) : Nat → Int
  | 0 => 0
  | j + 1 => if skp T i (j + 1) then hlN T i j else ((j + 1 : Nat) : Int)
theorem gS_W (T j : Nat) (s : DS) (i : Nat) : ∀ m, (gS T j s m).W i = if i < m ∧ skp T i j = false then s.W i ++ [markL (i : Int) (j : Int)] else s.W i
  | 0 => by rw [if_neg (by omega)]; rfl
  | m + 1 => by
    have ih := gS_W T j s i m
    unfold gS
    by_cases hs : skp T m j = true
    · rw [if_pos hs, ih]
      by_cases e : i = m
      · subst e; rw [if_neg (by omega), if_neg (by rw [hs]; simp)]
      · by_cases h2 : i < m ∧ skp T i j = false
        · rw [if_pos h2, if_pos ⟨by omega, h2.2⟩]
        · rw [if_neg h2, if_neg (fun h => h2 ⟨by omega, h.2⟩)]
    · rw [if_neg hs]
      show (if i = m then (gS T j s m).W m ++ [markL (m : Int) (j : Int)] else (gS T j s m).W i) = _
      by_cases e : i = m
      · subst e
        rw [if_pos rfl, if_pos ⟨by omega, by simpa using hs⟩, ih, if_neg (by omega)]
      · rw [if_neg e, ih]
        by_cases h2 : i < m ∧ skp T i j = false
        · rw [if_pos h2, if_pos ⟨by omega, h2.2⟩]
        · rw [if_neg h2, if_neg (fun h => h2 ⟨by omega, h.2⟩)]
theorem gS_L (T j : Nat) (s : DS) : ∀ m, (gS T j s m).L = s.L
  | 0 => rfl
  | m + 1 => by
    have ih := gS_L T j s m
    unfold gS
    split
    · exact ih
    · exact ih
theorem gH_get (T j : Nat) (h : List Int) (i : Nat) : ∀ m, m ≤ h.length → (gH T j h m).getD i 0 = if i < m ∧ skp T i j = false then (j : Int) else h.getD i 0
  | 0, _ => by rw [if_neg (by omega)]; rfl
  | m + 1, hm => by
    have ih := gH_get T j h i m (by omega)
    have hl := gH_len T j h m
    unfold gH
    by_cases hs : skp T m j = true
    · rw [if_pos hs, ih]
      by_cases e : i = m
      · subst e; rw [if_neg (by omega), if_neg (by rw [hs]; simp)]
      · by_cases h2 : i < m ∧ skp T i j = false
        · rw [if_pos h2, if_pos ⟨by omega, h2.2⟩]
        · rw [if_neg h2, if_neg (fun h => h2 ⟨by omega, h.2⟩)]
    · rw [if_neg hs]
      by_cases e : i = m
      · subst e
        rw [if_pos ⟨by omega, by simpa using hs⟩, List.getD_eq_getElem?_getD, List.getElem?_set_self (by omega)]
        rfl
      · rw [List.getD_eq_getElem?_getD, List.getElem?_set_ne (by omega), ← List.getD_eq_getElem?_getD, ih]
        by_cases h2 : i < m ∧ skp T i j = false
        · rw [if_pos h2, if_pos ⟨by omega, h2.2⟩]
        · rw [if_neg h2, if_neg (fun h => h2 ⟨by omega, h.2⟩)]
theorem oS_W (n T i : Nat) (hi : i < n) : ∀ j, (oS n T j).W i = wrL T i j
  | 0 => rfl
  | j + 1 => by
    have ih := oS_W n T i hi j
    unfold oS wrL
    rw [gS_W, ih]
    by_cases hs : skp T i (j + 1) = true
    · rw [if_pos hs, if_neg (by rw [hs]; simp)]
    · rw [if_neg hs, if_pos ⟨hi, by simpa using hs⟩]
theorem oS_L (n T : Nat) : ∀ j, (oS n T j).L = List.replicate n zeros
  | 0 => rfl
  | j + 1 => by unfold oS; rw [gS_L]; exact oS_L n T j
theorem oH_get (n T i : Nat) (hi : i < n) : ∀ j, (oH n T j).getD i 0 = hlN T i j
  | 0 => by
    show (List.replicate n (0 : Int)).getD i 0 = 0
    rw [List.getD_eq_getElem?_getD, List.getElem?_replicate, if_pos hi]; rfl
  | j + 1 => by
    have ih := oH_get n T i hi j
    unfold oH hlN
    rw [gH_get T (j + 1) _ i n (by rw [oH_len]; exact Nat.le_refl _), ih]
    by_cases hs : skp T i (j + 1) = true
    · rw [if_pos hs, if_neg (by rw [hs]; simp)]
    · rw [if_neg hs, if_pos ⟨hi, by simpa using hs⟩]
def mks (i h : Nat) : List (List Int) := (List.range h).map (fun k => markL (i : Int) ((k + 1 : Nat) : Int))
theorem mks_succ (i h : Nat) : mks i (h + 1) = mks i h ++ [markL (i : Int) ((h + 1 : Nat) : Int)] := by
  unfold mks
  rw [List.range_succ, List.map_append]
  rfl
theorem skp_five {T i j : Nat} (h : i % 5 = 4) : skp T i j = true := by unfold skp; rw [decide_eq_true h]; rfl
theorem skp_not {T i j : Nat} (h : ¬ i % 5 = 4) (hj : j ≠ T) : skp T i j = false := by unfold skp; rw [decide_eq_false h, decide_eq_false hj]; simp
theorem wr_early (T i : Nat) (h : ¬ i % 5 = 4) : ∀ j, j < T → wrL T i j = mks i j ∧ hlN T i j = (j : Int)
  | 0, _ => ⟨rfl, rfl⟩
  | j + 1, hj => by
    obtain ⟨h1, h2⟩ := wr_early T i h j (by omega)
    unfold wrL hlN
    rw [skp_not h (by omega)]
    exact ⟨by rw [if_neg (by simp), h1, mks_succ], by rw [if_neg (by simp)]⟩
theorem wr_five (T i : Nat) (h : i % 5 = 4) : ∀ j, wrL T i j = [] ∧ hlN T i j = 0
  | 0 => ⟨rfl, rfl⟩
  | j + 1 => by
    obtain ⟨h1, h2⟩ := wr_five T i h j
    unfold wrL hlN
    rw [skp_five h]
    exact ⟨h1, h2⟩
theorem wr_all (T i : Nat) (hT : 1 ≤ T) : ∃ h : Nat, h ≤ T ∧ wrL T i T = mks i h ∧ hlN T i T = (h : Int) := by
  by_cases h5 : i % 5 = 4
  · exact ⟨0, Nat.zero_le _, wr_five T i h5 T⟩
  · obtain ⟨t, rfl⟩ : ∃ t, T = t + 1 := ⟨T - 1, by omega⟩
    obtain ⟨h1, h2⟩ := wr_early (t + 1) i h5 t (by omega)
    by_cases hs : skp (t + 1) i (t + 1) = true
    · refine ⟨t, by omega, ?_⟩
      unfold wrL hlN
      rw [if_pos hs, if_pos hs]
      exact ⟨h1, h2⟩
    · refine ⟨t + 1, Nat.le_refl _, ?_⟩
      unfold wrL hlN
      rw [if_neg hs, if_neg hs, h1, mks_succ]
      exact ⟨rfl, rfl⟩
theorem mks_len (i h : Nat) : (mks i h).length = h := by unfold mks; rw [List.length_map, List.length_range]
theorem mks_get (i h k : Nat) (hk : k < h) : (mks i h).getD k [] = markL (i : Int) ((k + 1 : Nat) : Int) := by
  unfold mks
  rw [List.getD_eq_getElem?_getD, List.getElem?_map, List.getElem?_range hk, Option.map_some, Option.getD_some]
theorem great_cur (n T i : Nat) (hT : 1 ≤ T) (hi : i < n) : (oS n T T).cur i = if 0 < (oH n T T).getD i 0 then markL (i : Int) ((oH n T T).getD i 0) else zeros := by
  obtain ⟨h, hh, h1, h2⟩ := wr_all T i hT
  rw [oH_get n T i hi, h2]
  have hW : (oS n T T).W i = mks i h := by rw [oS_W n T i hi, h1]
  by_cases h0 : h = 0
  · subst h0
    rw [cur_nil hW, if_neg (by omega), oS_L, List.getD_eq_getElem?_getD, List.getElem?_replicate, if_pos hi, Option.getD_some]
  · have hne : (oS n T T).W i ≠ [] := by rw [hW]; intro e; have := mks_len i h; rw [e] at this; exact h0 this.symm
    rw [cur_last hne, hW, mks_len, mks_get i h _ (by omega), if_pos (by omega), show h - 1 + 1 = h by omega]
theorem great_hb (n T : Nat) (hT : 1 ≤ T) (i : Nat) : 0 ≤ (oH n T T).getD i 0 ∧ (oH n T T).getD i 0 ≤ (T : Int) := by
  by_cases hi : i < n
  · obtain ⟨h, hh, _, h2⟩ := wr_all T i hT
    rw [oH_get n T i hi, h2]
    omega
  · rw [List.getD_eq_getElem?_getD, List.getElem?_eq_none (by rw [oH_len]; omega)]
    exact ⟨Int.le_refl _, Int.natCast_nonneg _⟩
theorem keys_rank (s : DS) (k : Nat) (hk : k < s.n) (hW : s.W k ≠ []) :
    s.keysN.getD ((List.range k).filter (fun i => decide (s.W i ≠ []))).length 0 = k ∧ ((List.range k).filter (fun i => decide (s.W i ≠ []))).length < s.keysN.length := by
  have e : s.keysN = (List.range k).filter (fun i => decide (s.W i ≠ [])) ++ k :: ((List.range' (k + 1) (s.n - (k + 1))).filter (fun i => decide (s.W i ≠ []))) := by
    unfold DS.keysN
    rw [show s.n = k + (1 + (s.n - (k + 1))) by omega, List.range_eq_range', List.range_eq_range', ← List.range'_append_1, List.filter_append, ← List.range'_append_1, Nat.zero_add, List.filter_append]
    rw [show List.range' k 1 = [k] from rfl, List.filter_cons, if_pos (by simpa using hW)]
    simp only [List.filter_nil, List.singleton_append]
    rw [show k + (1 + (s.n - (k + 1))) - (k + 1) = s.n - (k + 1) by omega]
  rw [e]
  constructor
  · rw [List.getD_eq_getElem?_getD, List.getElem?_append_right (Nat.le_refl _), Nat.sub_self]
    rfl
  · rw [List.length_append, List.length_cons]; omega
theorem crashL_at (s : DS) (fs : List Int) (hL : s.L.length = s.n) (q : Nat) (hq : q < s.keysN.length) : ∀ j, j ≤ s.keysN.length →
    (crashL s fs j).getD (s.keysN.getD q 0) [] = if q < j ∧ 1 ≤ fs.getD q 0 then (s.W (s.keysN.getD q 0)).getD ((min (fs.getD q 0) ((s.W (s.keysN.getD q 0)).length : Int)).toNat - 1) [] else s.L.getD (s.keysN.getD q 0) []
  | 0, _ => by rw [if_neg (by omega)]; rfl
  | j + 1, hj => by
    have ih := crashL_at s fs hL q hq j (by omega)
    have hk := (key_at s q hq).1
    unfold crashL
    by_cases hf : 1 ≤ fs.getD j 0
    · rw [if_pos hf]
      by_cases e : j = q
      · subst e
        rw [if_pos ⟨by omega, hf⟩, List.getD_eq_getElem?_getD, List.getElem?_set_self (by rw [crashL_len, hL]; exact hk)]
        rfl
      · have hne : s.keysN.getD j 0 ≠ s.keysN.getD q 0 := by
          intro e2
          have hr := s.keysN_rising
          rw [List.pairwise_iff_getElem] at hr
          rw [List.getD_eq_getElem?_getD, List.getD_eq_getElem?_getD, List.getElem?_eq_getElem (by omega), List.getElem?_eq_getElem hq] at e2
          simp only [Option.getD_some] at e2
          rcases Nat.lt_or_gt_of_ne e with h | h
          · have := hr j q (by omega) hq h; omega
          · have := hr q j hq (by omega) h; omega
        rw [List.getD_eq_getElem?_getD, List.getElem?_set_ne hne, ← List.getD_eq_getElem?_getD, ih]
        by_cases h2 : q < j ∧ 1 ≤ fs.getD q 0
        · rw [if_pos h2, if_pos ⟨by omega, h2.2⟩]
        · rw [if_neg h2, if_neg (fun h => h2 ⟨by omega, h.2⟩)]
    · rw [if_neg hf, ih]
      by_cases h2 : q < j ∧ 1 ≤ fs.getD q 0
      · rw [if_pos h2, if_pos ⟨by omega, h2.2⟩]
      · rw [if_neg h2, if_neg (fun h => h2 ⟨by
          have := h.1
          by_cases e : q = j
          · exact absurd (e ▸ h.2) hf
          · omega, h.2⟩)]
theorem crashL_off (s : DS) (fs : List Int) (i : Nat) (hW : s.W i = []) : ∀ j, j ≤ s.keysN.length → (crashL s fs j).getD i [] = s.L.getD i []
  | 0, _ => rfl
  | j + 1, hj => by
    have ih := crashL_off s fs i hW j (by omega)
    have hk := key_at s j (by omega)
    unfold crashL
    split
    · rw [List.getD_eq_getElem?_getD, List.getElem?_set_ne (fun e => hk.2.1 (by rw [e]; exact hW)), ← List.getD_eq_getElem?_getD, ih]
    · exact ih
theorem wf_step (n T a b : Nat) (H : List Int) (i : Nat) : (wf n T a b H (i + 1)).1.length = (wf n T a b H i).1.length ∧ ∀ k, k ≠ i → (wf n T a b H (i + 1)).1.getD k [] = (wf n T a b H i).1.getD k [] := by
  by_cases h : H.getD i 0 = 0
  · rw [wf_zero n T a b H i h]
    exact ⟨List.length_set, fun k hk => by rw [List.getD_eq_getElem?_getD, List.getElem?_set_ne (fun e => hk e.symm), ← List.getD_eq_getElem?_getD]⟩
  · rw [wf_more n T a b H i _ _ _ rfl h rfl rfl]
    exact ⟨List.length_set, fun k hk => by rw [List.getD_eq_getElem?_getD, List.getElem?_set_ne (fun e => hk e.symm), ← List.getD_eq_getElem?_getD]⟩
theorem wf_wlen (n T a b : Nat) (H : List Int) : ∀ i, (wf n T a b H i).1.length = n
  | 0 => List.length_replicate
  | i + 1 => (wf_step n T a b H i).1.trans (wf_wlen n T a b H i)
theorem wf_keep (n T a b : Nat) (H : List Int) (k : Nat) : ∀ d, (wf n T a b H (k + 1 + d)).1.getD k [] = (wf n T a b H (k + 1)).1.getD k []
  | 0 => rfl
  | d + 1 => ((wf_step n T a b H (k + 1 + d)).2 k (by omega)).trans (wf_keep n T a b H k d)
theorem wf_fates (n T a b : Nat) (H : List Int) : ∀ i, (wf n T a b H i).2 = (List.range ((List.range i).filter (fun k => decide (H.getD k 0 ≠ 0))).length).map (fun q => (fateN T a b q : Int) - 1)
  | 0 => rfl
  | i + 1 => by
    have ih := wf_fates n T a b H i
    rw [List.range_succ, List.filter_append, List.length_append]
    by_cases h : H.getD i 0 = 0
    · rw [wf_zero n T a b H i h]
      rw [show List.filter (fun k => decide (H.getD k 0 ≠ 0)) [i] = [] by rw [List.filter_cons, if_neg (by simpa using h)]; rfl]
      exact ih
    · have hl : (wf n T a b H i).2.length = ((List.range i).filter (fun k => decide (H.getD k 0 ≠ 0))).length := by rw [ih, List.length_map, List.length_range]
      rw [wf_more n T a b H i _ _ _ rfl h rfl rfl]
      rw [show List.filter (fun k => decide (H.getD k 0 ≠ 0)) [i] = [i] by rw [List.filter_cons, if_pos (by simpa using h)]; rfl]
      rw [List.length_singleton, List.range_succ, List.map_append, ← ih, hl]
      rfl
theorem great_crash (n T a b : Nat) (hT : 1 ≤ T) (k : Nat) (hk : k < n) :
    ((oS n T T).crash (wf n T a b (oH n T T) n).2).L.getD k [] = (wf n T a b (oH n T T) n).1.getD k [] := by
  obtain ⟨h, hh, h1, h2⟩ := wr_all T k hT
  have hW : (oS n T T).W k = mks k h := by rw [oS_W n T k hk, h1]
  have hH : (oH n T T).getD k 0 = (h : Int) := by rw [oH_get n T k hk, h2]
  have hn := oS_n n T T
  have hL : (oS n T T).L.length = (oS n T T).n := by rw [oS_L, List.length_replicate, hn]
  have hLk : (oS n T T).L.getD k [] = zeros := by rw [oS_L, List.getD_eq_getElem?_getD, List.getElem?_replicate, if_pos hk, Option.getD_some]
  have hfil : ∀ i, i ≤ n → (List.range i).filter (fun k => decide ((oH n T T).getD k 0 ≠ 0)) = (List.range i).filter (fun k => decide ((oS n T T).W k ≠ [])) := by
    intro i hi
    apply List.filter_congr
    intro x hx
    have hx : x < n := by have := List.mem_range.1 hx; omega
    obtain ⟨hx', _, h3, h4⟩ := wr_all T x hT
    rw [oS_W n T x hx, oH_get n T x hx, h3, h4]
    by_cases e : hx' = 0
    · subst e; rfl
    · have hne : mks x hx' ≠ [] := by intro e2; have := mks_len x hx'; rw [e2] at this; exact e this.symm
      rw [decide_eq_true (by omega), decide_eq_true hne]
  have hwk : (wf n T a b (oH n T T) n).1.getD k [] = (wf n T a b (oH n T T) (k + 1)).1.getD k [] := by
    have h_ := wf_keep n T a b (oH n T T) k (n - (k + 1))
    rwa [show k + 1 + (n - (k + 1)) = n by omega] at h_
  have hfl : (wf n T a b (oH n T T) n).2.length = (oS n T T).keysN.length := by
    rw [wf_fates, List.length_map, List.length_range, hfil n (Nat.le_refl _)]
    unfold DS.keysN
    rw [hn]
  show (crashL (oS n T T) (wf n T a b (oH n T T) n).2 (min (oS n T T).keysN.length (wf n T a b (oH n T T) n).2.length)).getD k [] = _
  rw [hfl, Nat.min_self, hwk]
  by_cases h0 : h = 0
  · subst h0
    rw [crashL_off _ _ k (by rw [hW]; rfl) _ (Nat.le_refl _), hLk, wf_zero n T a b _ k (by rw [hH]; rfl), List.getD_eq_getElem?_getD, List.getElem?_set_self (by rw [wf_wlen]; exact hk), Option.getD_some]
  · have hne : (oS n T T).W k ≠ [] := by rw [hW]; intro e; have := mks_len k h; rw [e] at this; exact h0 this.symm
    obtain ⟨e1, e2⟩ := keys_rank (oS n T T) k (by rw [hn]; exact hk) hne
    obtain ⟨q, hq⟩ : ∃ q, q = ((List.range k).filter (fun i => decide ((oS n T T).W i ≠ []))).length := ⟨_, rfl⟩
    rw [← hq] at e1 e2
    have hc := crashL_at (oS n T T) (wf n T a b (oH n T T) n).2 hL q e2 _ (Nat.le_refl _)
    have hfq : (wf n T a b (oH n T T) n).2.getD q 0 = (fateN T a b q : Int) - 1 := by
      rw [List.getD_eq_getElem?_getD, wf_fates, List.getElem?_map, List.getElem?_range (by rw [hfil n (Nat.le_refl _)]; unfold DS.keysN at e2; rw [hn] at e2; exact e2)]
      rfl
    have hql : (wf n T a b (oH n T T) k).2.length = q := by rw [wf_fates, List.length_map, List.length_range, hfil k (by omega), hq]
    rw [e1, hfq, hW, mks_len, hLk] at hc
    have hr : ∀ X, ((wf n T a b (oH n T T) k).1.set k X).getD k [] = X := fun X => by rw [List.getD_eq_getElem?_getD, List.getElem?_set_self (by rw [wf_wlen]; exact hk), Option.getD_some]
    rw [hc, wf_more n T a b _ k _ q _ hH (by omega) hql rfl]
    show _ = ((wf n T a b (oH n T T) k).1.set k _).getD k []
    rw [hr]
    by_cases hf : 1 < fateN T a b q
    · rw [if_pos hf, if_pos ⟨e2, by omega⟩, mks_get _ _ _ (by omega)]
      congr 1
      omega
    · rw [if_neg hf, if_neg (fun h => hf (by omega))]
def greatF (_k : Nat) (_a _b _c _d : Int) : Option Bool := some true
theorem great_row (k : Nat) (a0 a1 a2 a3 : Int) (r : Bool) (w : World) (h : greatF k a0 a1 a2 a3 = some r) :
    Calls Try.prog 8 #[.int .i64 a0, .int .i64 a1, .int .i64 a2, .int .i64 a3] w fun e w' => e = .returned (.bool r) ∧ Below w.heap.size w w' := by
  cases h
  obtain ⟨r0, h0, h0a, h0b⟩ := mod_ok a0 1999 (by omega) (by omega)
  obtain ⟨n, hn⟩ : ∃ n : Nat, (n : Int) = r0 + 2 := ⟨(r0 + 2).toNat, by omega⟩
  obtain rfl : r0 = (n : Int) - 2 := by omega
  have hn2 : 2 ≤ n := by omega
  have hq0 : 1 ≤ 30000 / n := by rw [Nat.le_div_iff_mul_le (by omega)]; omega
  have hqc : (30000 : Int) / (n : Int) = ((30000 / n : Nat) : Int) := (Int.natCast_ediv 30000 n).symm
  obtain ⟨M, hM⟩ : ∃ M : Nat, M = min 2000 (30000 / n) := ⟨_, rfl⟩
  obtain ⟨r1, h1, h1a, h1b⟩ := mod_ok a1 (M : Int) (by omega) (by omega)
  obtain ⟨T, hT⟩ : ∃ T : Nat, (T : Int) = r1 + 1 := ⟨(r1 + 1).toNat, by omega⟩
  obtain rfl : r1 = (T : Int) - 1 := by omega
  have hTm : T ≤ M := by omega
  have hTn : T * n ≤ 30000 := Nat.le_trans (Nat.mul_le_mul_right n (show T ≤ 30000 / n by omega)) (Nat.div_mul_le_self 30000 n)
  obtain ⟨r2, h2, h2a, h2b⟩ := mod_ok a2 ((T : Int) + 2) (by omega) (by omega)
  obtain ⟨a, ha⟩ : ∃ a : Nat, (a : Int) = r2 := ⟨r2.toNat, by omega⟩
  obtain ⟨r3, h3, h3a, h3b⟩ := mod_ok a3 ((T : Int) + 3) (by omega) (by omega)
  obtain ⟨b, hb⟩ : ∃ b : Nat, (b : Int) = r3 := ⟨r3.toNat, by omega⟩
  subst ha
  subst hb
  exact great_calls a0 a1 a2 a3 w n T a b M hn2 (by omega) (by omega) (by omega) hTn (by omega) (by omega) h0 _ rfl (by rw [hqc]; omega) h1 h2 h3 (great_hb n T (by omega)) (fun i hi => great_cur n T i (by omega) hi) (fun i hi => great_crash n T a b (by omega) i hi)
theorem great_pure : ∀ (a0 a1 a2 a3 : Int), (Lit.int .i64 a0).wf = true → (Lit.int .i64 a1).wf = true → (Lit.int .i64 a2).wf = true → (Lit.int .i64 a3).wf = true → ∃ k, greatF k a0 a1 a2 a3 = some true := fun _ _ _ _ _ _ _ _ => ⟨0, rfl⟩
end Go.Proofs.Ytddnhcnkjcdfgaa.M

namespace Go.Proofs.Ytddnhcnkjcdfgaa.diskGreat
open Go.ChangeShapes Go.WideShapes Go.ChangeAt Go.RowKit Go.Proofs.YtddnhcnkjcdfgaaW.PrintWords Go.Proofs.YtddnhcnkjcdfgaaW.PrintLast Go.Proofs.YtddnhcnkjcdfgaaW.PrintMore Go.Proofs.Ytddnhcnkjcdfgaa.P Go.Proofs.Ytddnhcnkjcdfgaa.M
set_option linter.unusedVariables false
theorem own : ownKnob Try.prog.godebug = none := by kernel_rfl
theorem laidOut : laidOutB Try.prog = true := by kernel_rfl
def IsRow (k : IntKind) (w : World) (a : Option Addr) (len cap : Nat) (zs : List Int) : Prop :=
  (a = none ∧ len = 0 ∧ cap = 0 ∧ zs = []) ∨
  ∃ x, a = some x ∧ len ≤ cap ∧ cap ≤ maxLen ∧ zs.length = cap ∧ (∀ i, i < zs.length → w.cell? (x.add i) = some (.int k (zs.getD i 0))) ∧ ∀ n ∈ zs, (Lit.int k n).wf = true
set_option maxRecDepth 100000 in
theorem contract (H : Type) (enc : TypeId × Value → H) (W : World) (base : Nat) (args : Array Value) (ds gs : List (DataW H)) (before : List MemPlace)
    (hval : ∀ (j : Nat) t v, Try.f8.params[j]? = some t → args[j]? = some v → Value.okWide Try.prog W .any base t v)
    (hW : DataW.Whole enc Try.prog Try.f8.params.toList Rows.diskGreatSpec.vars false W args.toList ds gs before)
    (hsz0 : (DataW.weightsEach Try.prog (Try.f8.params.toList ++ Rows.diskGreatSpec.plain.varTypes Try.prog) (ds ++ gs)).all (· ≤ reachBytes) = true)
    (hL : laidMetH Try.prog Rows.diskGreatRow.laid W) :
    Calls Try.prog 8 args W fun e W' => ∃ v, e = .returned v ∧ Rows.diskGreatSpec.post enc Try.prog Try.f8 false true false false W args v W' := by
  have hW' := hW
  have hsz : (DataW.weightsEach Try.prog (Try.f8.params.toList ++ Rows.diskGreatSpec.plain.varTypes Try.prog) (ds ++ gs)).all (· ≤ reachBytes) = true := hsz0
  obtain ⟨p, q, hA0, hV, rfl, hfz, hnd⟩ := hW
  have hA : DataW.TrodAll enc Try.prog W 0 (fun _ => true) true Try.f8.params.toList args.toList ds p := hA0
  rw [Try.params8] at hA hval hsz
  obtain ⟨v0, vs0, d0, ds0, p0, q0, hargs, rfl, rfl, h0, r0⟩ := trodAll_cons hA
  obtain ⟨v1, vs1, d1, ds1, p1, q1, rfl, rfl, rfl, h1, r1⟩ := trodAll_cons r0
  obtain ⟨v2, vs2, d2, ds2, p2, q2, rfl, rfl, rfl, h2, r2⟩ := trodAll_cons r1
  obtain ⟨v3, vs3, d3, ds3, p3, q3, rfl, rfl, rfl, h3, r3⟩ := trodAll_cons r2
  obtain ⟨rfl, rfl, rfl⟩ := trodAll_nil r3
  obtain rfl : args = #[v0, v1, v2, v3] := by cases args; simp_all
  obtain ⟨rfl, rfl⟩ := trodVars_none hV
  obtain ⟨a0, rfl, rfl, rfl, w0⟩ := open_int Try.underlying3 (hval 0 3 v0 rfl rfl) h0
  obtain ⟨a1, rfl, rfl, rfl, w1⟩ := open_int Try.underlying3 (hval 1 3 v1 rfl rfl) h1
  obtain ⟨a2, rfl, rfl, rfl, w2⟩ := open_int Try.underlying3 (hval 2 3 v2 rfl rfl) h2
  obtain ⟨a3, rfl, rfl, rfl, w3⟩ := open_int Try.underlying3 (hval 3 3 v3 rfl rfl) h3
  clear hA0 hsz0 hsz
  obtain ⟨k, h⟩ := M.great_pure a0 a1 a2 a3 w0 w1 w2 w3
  refine (M.great_row k a0 a1 a2 a3 true W  h).mono ?_
  rintro e W' ⟨rfl, bel⟩
  exact ⟨_, rfl, _, _, _, [], _, [], hW', trodAll_mk1 (shut_bool Try.underlying4 _), (trodAll_cons_mk (shut_int Try.underlying3 w0) (trodAll_cons_mk (shut_int Try.underlying3 w1) (trodAll_cons_mk (shut_int Try.underlying3 w2) (trodAll_cons_mk (shut_int Try.underlying3 w3) trodAll_mk0)))), rfl, bel.frame _, fun h => by cases h⟩
noncomputable def laidWorld (os : Os) : World := World.holding Try.prog os ⟨#[], #[], []⟩
theorem laid_met (os : Os) : laidMet Try.prog Rows.diskGreatRow.laid ((laidWorld os).forCall (fun _ _ => 0) ⟨#[], #[.int .i64 0, .int .i64 0, .int .i64 0, .int .i64 0], []⟩).memory :=
  laidMet_of_run' 8 (by kernel_rfl) (by kernel_rfl)
theorem reads (os : Os) {H : Type} (enc : TypeId × Value → H) : ∃ places, DataW.whole enc Try.prog ((laidWorld os).forCall (fun _ _ => 0) ⟨#[], #[.int .i64 0, .int .i64 0, .int .i64 0, .int .i64 0], []⟩).memory Try.f8.params.toList Rows.diskGreatSpec.vars false (#[.int .i64 0, .int .i64 0, .int .i64 0, .int .i64 0] : Array Value).toList 8 = some ([.lit (.int .i64 0), .lit (.int .i64 0), .lit (.int .i64 0), .lit (.int .i64 0)], [], places) :=
  ⟨[], by kernel_rfl⟩
set_option maxRecDepth 100000 in
theorem lifted (os : Os) (started : os.Started) (H : Type) (enc : TypeId × Value → H) (F : Stop.Interp) :
    ReturnsInHanded {} Try.checked os 8 .any ((OpenSpec.ofChange Rows.diskGreatSpec).preRow enc Try.prog Try.f8 Rows.diskGreatRow.domain false Rows.diskGreatRow.laid) (((OpenSpec.ofChange Rows.diskGreatSpec).at F).post enc Try.prog Try.f8 false true false false) := by
  obtain ⟨places, hx⟩ := reads os enc
  refine returnsInHanded_of_row (C := Try.checked) (s := OpenSpec.ofChange Rows.diskGreatSpec) own started (by kernel_rfl) Try.func8
    (witness_row_at (enc := enc) (C := Try.checked) false (laidWorld os) #[.int .i64 0, .int .i64 0, .int .i64 0, .int .i64 0] rfl (by kernel_rfl) (by kernel_rfl) (by kernel_rfl)
      (OpenSpec.preRow_of_cond 8 hx (by kernel_rfl) (fun k hk => by cases hk) (by kernel_rfl) (laid_met os))) ?_
  intro W base args ds gs before hval hW _ hcond hsz hL _ _
  exact contract H enc W base args ds gs before hval hW hsz hL
theorem said : Rows.DiskGreatSaid :=
  OpenClaim.holds_of_cond 8 Try.f8 rfl rfl rfl rfl rfl rfl rfl ⟨rfl, rfl, rfl, rfl, rfl⟩ rfl rfl rfl rfl rfl (by kernel_rfl) Try.func8 (by kernel_rfl)
    (of_decide_eq_true (by kernel_rfl)) (by unfold Func.isWrapper; first | (rw [if_pos (by decide +kernel)]; kernel_rfl) | (rw [if_neg (by decide +kernel)]; exact ⟨rfl, rfl⟩))
    (fun os started H enc _ F => by rw [OpenClaim.pre_eq_preRow]; exact lifted os started H enc F)
#print axioms said
end Go.Proofs.Ytddnhcnkjcdfgaa.diskGreat
namespace Go.Proofs.Ytddnhcnkjcdfgaa
theorem diskGreat_holds : Rows.DiskGreatSaid := diskGreat.said
end Go.Proofs.Ytddnhcnkjcdfgaa
