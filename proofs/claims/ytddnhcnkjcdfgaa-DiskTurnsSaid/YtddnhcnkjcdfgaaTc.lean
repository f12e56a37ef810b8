-- Things that lie side by side in memory; A disk as a thing in memory; Turn and Acts: lemmas; Turn, Acts; Acts, and what is refused
import Derived.Test.YtddnhcnkjcdfgaaDi
import Derived.Test.YtddnhcnkjcdfgaaDr
import Derived.Test.YtddnhcnkjcdfgaaDt
namespace Go.Proofs.Ytddnhcnkjcdfgaa.M
open Go.RowKit Go.Maps Go.Proofs.YtddnhcnkjcdfgaaW.PrintWords Go.Proofs.YtddnhcnkjcdfgaaW.PrintLast Go.Proofs.YtddnhcnkjcdfgaaW.PrintMore
set_option linter.unusedVariables false
set_option linter.unusedSimpArgs false
/-- A thing in memory: what it says of a world, and its blocks. -/
structure Th where
  P : World → (Nat → Prop) → Prop
  foot : ∀ {w : World} {F : Nat → Prop}, P w F → ∀ b, F b → b < w.heap.size
  step : ∀ {w w' : World} {F : Nat → Prop}, P w F → (∀ b, F b → w'.heap[b]? = w.heap[b]?) → P w' F
/-- They lie in blocks of their own, all within U. -/
def Hold (w : World) : List Th → (Nat → Prop) → Prop
  | [], _ => True
  | t :: L, U => ∃ F, t.P w F ∧ (∀ b, F b → U b) ∧ Hold w L (fun b => U b ∧ ¬ F b)
theorem Hold.mono {w : World} : ∀ {L : List Th} {U U' : Nat → Prop}, Hold w L U → (∀ b, U b → b < w.heap.size → U' b) → Hold w L U'
  | [], _, _, _, _ => trivial
  | t :: L, U, U', ⟨F, h1, h2, h3⟩, h => ⟨F, h1, fun b hb => h b (h2 b hb) (t.foot h1 b hb), Hold.mono h3 (fun b hb hlt => ⟨h b hb.1 hlt, hb.2⟩)⟩
theorem Hold.move {w w' : World} : ∀ {L : List Th} {U : Nat → Prop}, Hold w L U → (∀ b, U b → b < w.heap.size → w'.heap[b]? = w.heap[b]?) → Hold w' L U
  | [], _, _, _ => trivial
  | t :: L, U, ⟨F, h1, h2, h3⟩, h => ⟨F, t.step h1 (fun b hb => h b (h2 b hb) (t.foot h1 b hb)), h2, Hold.move h3 (fun b hb hlt => h b hb.1 hlt)⟩
theorem Hold.split {w : World} : ∀ {M L : List Th} {U : Nat → Prop}, Hold w (M ++ L) U → ∃ U1 : Nat → Prop, (∀ b, U1 b → U b) ∧ Hold w M U1 ∧ Hold w L (fun b => U b ∧ ¬ U1 b)
  | [], L, U, h => ⟨fun _ => False, fun _ h => h.elim, trivial, Hold.mono h (fun b hb _ => ⟨hb, fun h => h⟩)⟩
  | t :: M, L, U, ⟨F, h1, h2, h3⟩ => by
    obtain ⟨U1, e1, e2, e3⟩ := Hold.split (M := M) h3
    refine ⟨fun b => F b ∨ U1 b, fun b hb => hb.elim (h2 b) (fun h => (e1 b h).1), ⟨F, h1, fun b hb => .inl hb, Hold.mono e2 (fun b hb _ => ⟨.inr hb, (e1 b hb).2⟩)⟩, Hold.mono e3 (fun b hb _ => ⟨hb.1.1, fun h => h.elim hb.1.2 hb.2⟩)⟩
theorem Hold.append {w : World} : ∀ {M L : List Th} {U1 U2 U : Nat → Prop}, Hold w M U1 → Hold w L U2 → (∀ b, U1 b → U b ∧ ¬ U2 b) → (∀ b, U2 b → U b) → Hold w (M ++ L) U
  | [], L, U1, U2, U, _, h2, _, h4 => Hold.mono h2 (fun b hb _ => h4 b hb)
  | t :: M, L, U1, U2, U, ⟨F, h1, h2, h3⟩, h5, h6, h7 => ⟨F, h1, fun b hb => (h6 b (h2 b hb)).1, Hold.append (M := M) h3 h5 (fun b hb => ⟨⟨(h6 b hb.1).1, hb.2⟩, (h6 b hb.1).2⟩) (fun b hb => ⟨h7 b hb, fun hF => (h6 b (h2 b hF)).2 hb⟩)⟩
theorem Hold.perm {w : World} {L L' : List Th} (hp : L.Perm L') : ∀ {U : Nat → Prop}, Hold w L U → Hold w L' U := by
  induction hp with
  | nil => exact fun h => h
  | cons t _ ih => rintro U ⟨F, h1, h2, h3⟩; exact ⟨F, h1, h2, ih h3⟩
  | swap a b L =>
    rintro U ⟨F, h1, h2, G, g1, g2, h3⟩
    exact ⟨G, g1, fun x hx => (g2 x hx).1, F, h1, fun x hx => ⟨h2 x hx, fun hG => (g2 x hG).2 hx⟩, Hold.mono h3 (fun x hx _ => ⟨⟨hx.1.1, hx.2⟩, hx.1.2⟩)⟩
  | trans _ _ ih1 ih2 => exact fun h => ih2 (ih1 h)
/-- What lay at w0 lies there still; L: what has been made since. -/
structure Sep (w0 w : World) (L : List Th) : Prop where
  below : Below w0.heap.size w0 w
  hold : Hold w L (fun b => w0.heap.size ≤ b)
section
variable {w0 w w' : World} {L M N : List Th} {t t' : Th}
theorem Sep.refl (w : World) : Sep w w [] := ⟨Below.refl _ _, trivial⟩
theorem Sep.step (h : Sep w0 w L) (hb : Below w.heap.size w w') : Sep w0 w' L := ⟨below_step h.below hb, h.hold.move (fun b _ hlt => hb.block b hlt)⟩
theorem Sep.perm (h : Sep w0 w L) (hp : L.Perm M) : Sep w0 w M := ⟨h.below, h.hold.perm hp⟩
theorem Sep.up1 {a b : Th} (h : Sep w0 w (a :: b :: L)) : Sep w0 w (b :: a :: L) := h.perm (List.Perm.swap b a L)
theorem Sep.up2 {a b c : Th} (h : Sep w0 w (a :: b :: c :: L)) : Sep w0 w (c :: a :: b :: L) := h.perm (List.perm_middle (l₁ := [a, b]))
theorem Sep.up3 {a b c d : Th} (h : Sep w0 w (a :: b :: c :: d :: L)) : Sep w0 w (d :: a :: b :: c :: L) := h.perm (List.perm_middle (l₁ := [a, b, c]))
theorem Sep.up4 {a b c d e : Th} (h : Sep w0 w (a :: b :: c :: d :: e :: L)) : Sep w0 w (e :: a :: b :: c :: d :: L) := h.perm (List.perm_middle (l₁ := [a, b, c, d]))
theorem Sep.down2 {a b c : Th} (h : Sep w0 w (c :: a :: b :: L)) : Sep w0 w (a :: b :: c :: L) := h.perm (List.perm_middle (l₁ := [a, b])).symm
theorem Sep.down3 {a b c d : Th} (h : Sep w0 w (d :: a :: b :: c :: L)) : Sep w0 w (a :: b :: c :: d :: L) := h.perm (List.perm_middle (l₁ := [a, b, c])).symm
theorem Sep.drop (h : Sep w0 w (t :: L)) : Sep w0 w L := by
  obtain ⟨hb, F, h1, h2, h3⟩ := h
  exact ⟨hb, h3.mono (fun b hb _ => hb.1)⟩
/-- The things M are taken, and others put back. -/
theorem Sep.split (h : Sep w0 w (M ++ L)) : ∃ U : Nat → Prop, Hold w M U ∧ (∀ b, U b → w0.heap.size ≤ b) ∧ ∀ (N : List Th) (w' : World), Hold w' N (fun b => U b ∨ w.heap.size ≤ b) → Chg U w w' → Sep w0 w' (N ++ L) := by
  obtain ⟨hb, h1⟩ := h
  obtain ⟨U1, e1, e2, e3⟩ := h1.split
  have hs := below_size hb
  refine ⟨U1, e2, e1, fun N w' hN hc => ⟨Chg.below hb hc hs e1, ?_⟩⟩
  have h4 : Hold w L (fun b => (w0.heap.size ≤ b ∧ ¬ U1 b) ∧ b < w.heap.size) := e3.mono (fun b hb hlt => ⟨hb, hlt⟩)
  exact hN.append (h4.move (fun b hU hlt => hc.block b hlt hU.1.2)) (fun b hb => ⟨hb.elim (e1 b) (Nat.le_trans hs), fun hx => hb.elim hx.1.2 (fun h => Nat.not_lt.2 h hx.2)⟩) (fun b hb => hb.1.1)
theorem Sep.open_ (h : Sep w0 w (t :: L)) : ∃ F, t.P w F ∧ (∀ b, F b → w0.heap.size ≤ b) ∧ ∀ (N : List Th) (w' : World), Hold w' N (fun b => F b ∨ w.heap.size ≤ b) → Chg F w w' → Sep w0 w' (N ++ L) := by
  obtain ⟨U, ⟨F, h1, h2, _⟩, h3, h4⟩ := Sep.split (M := [t]) h
  refine ⟨F, h1, fun b hb => h3 b (h2 b hb), fun N w' hN hc => h4 N w' (hN.mono (fun b hb _ => hb.imp (h2 b) id)) (hc.mono h2)⟩
/-- One thing is changed. -/
theorem Sep.open1 (h : Sep w0 w (t :: L)) : ∃ F, t.P w F ∧ (∀ b, F b → w0.heap.size ≤ b) ∧ ∀ (t' : Th) (w' : World) (F' : Nat → Prop), t'.P w' F' → (∀ b, F' b → F b ∨ w.heap.size ≤ b) → Chg F w w' → Sep w0 w' (t' :: L) := by
  obtain ⟨F, h1, h2, h3⟩ := h.open_
  exact ⟨F, h1, h2, fun t' w' F' h4 h5 hc => h3 [t'] w' ⟨F', h4, h5, trivial⟩ hc⟩
/-- A thing is made. -/
theorem Sep.push (h : Sep w0 w L) (hb : Below w.heap.size w w') {F : Nat → Prop} (ht : t.P w' F) (hF : ∀ b, F b → w.heap.size ≤ b) : Sep w0 w' (t :: L) := by
  obtain ⟨U, _, _, h3⟩ := Sep.split (M := []) h
  exact h3 [t] w' ⟨F, ht, fun b hb => .inr (hF b hb), trivial⟩ ((Chg.of_below (F := fun _ => False) hb).mono (fun _ h => h.elim))
theorem Sep.get (h : Sep w0 w (t :: L)) : ∃ F, t.P w F ∧ ∀ b, F b → w0.heap.size ≤ b := by
  obtain ⟨F, h1, h2, _⟩ := h.open_
  exact ⟨F, h1, h2⟩
/-- A thing is told otherwise. -/
theorem Sep.conv (h : Sep w0 w (t :: L)) (hc : ∀ F, t.P w F → ∃ F', t'.P w F' ∧ ∀ b, F' b → F b) : Sep w0 w (t' :: L) := by
  obtain ⟨F, h1, _, h3⟩ := h.open1
  obtain ⟨F', h4, h5⟩ := hc F h1
  exact h3 t' w F' h4 (fun b hb => .inl (h5 b hb)) (Chg.refl _ _)
theorem Sep.size (h : Sep w0 w L) : w0.heap.size ≤ w.heap.size := below_size h.below
end
def noT : Th := ⟨fun _ _ => False, fun h => h.elim, fun h _ => h.elim⟩
theorem map_getD (L : List Th) : L = (List.range L.length).map (fun i => L.getD i noT) := by
  apply List.ext_getElem
  · simp
  · intro i h1 h2
    rw [List.getElem_map, List.getElem_range, List.getD_eq_getElem?_getD, List.getElem?_eq_getElem h1]
    rfl
/-- Things are picked, in any order. -/
theorem Sep.sel {w0 w : World} {L : List Th} (h : Sep w0 w L) (n : Nat) (idx : List Nat) (M : List Th) (hn : L.length = n) (hp : idx.Nodup ∧ ∀ i ∈ idx, i < n) (hM : idx.map (fun i => L.getD i noT) = M) : Sep w0 w M := by
  subst hn
  have h1 : (List.range L.length).Perm (idx ++ (List.range L.length).filter (fun i => decide (i ∉ idx))) := by
    rw [List.perm_ext_iff_of_nodup List.nodup_range (List.nodup_append.2 ⟨hp.1, List.nodup_range.filter _, fun a ha b hb e => by
      subst e
      have := (List.mem_filter.1 hb).2
      simp at this
      exact this ha⟩)]
    intro x
    rw [List.mem_append, List.mem_filter, List.mem_range]
    constructor
    · intro hx
      by_cases e : x ∈ idx
      · exact .inl e
      · exact .inr ⟨hx, by simpa using e⟩
    · rintro (e | ⟨e, _⟩)
      · exact hp.2 x e
      · exact e
  have h2 := h1.map (fun i => L.getD i noT)
  rw [← map_getD, List.map_append, hM] at h2
  obtain ⟨hb, hh⟩ := h.perm h2
  obtain ⟨U1, e1, e2, _⟩ := hh.split
  exact ⟨hb, e2.mono (fun b hb _ => e1 b hb)⟩
theorem same_lt {w w' : World} {b : Nat} (h : w'.heap[b]? = w.heap[b]?) (hb : b < w.heap.size) : b < w'.heap.size := by
  rw [Array.getElem?_eq_getElem hb] at h
  exact (Array.getElem?_eq_some_iff.1 h).1
/-- A row of the call's own; its elements' rows are its own, too. -/
def ownT {α : Type} (d : Kd α) (e : Nat) (v : Value) (xs : List α) : Th where
  P := fun w F => (∃ base, d.R e w base F v xs) ∧ ∀ b, F b → b < w.heap.size
  foot := fun h => h.2
  step := by
    rintro w w' F ⟨⟨base, h1⟩, h2⟩ h
    exact ⟨⟨base, Kd.R_step h1 (fun k hk _ => h k hk)⟩, fun b hb => same_lt (h b hb) (h2 b hb)⟩
/-- The same, and its elements' rows are apart. -/
def rowsT {α : Type} (d : Kd α) (e : Nat) (v : Value) (xs : List α) : Th where
  P := fun w F => (∃ base, Kd.S d e w base F v xs) ∧ ∀ b, F b → b < w.heap.size
  foot := fun h => h.2
  step := by
    rintro w w' F ⟨⟨base, h1⟩, h2⟩ h
    exact ⟨⟨base, Kd.S_step h1 (fun k hk _ => h k hk)⟩, fun b hb => same_lt (h b hb) (h2 b hb)⟩
/-- A block. -/
def cellsT (g : Nat) (cs : Array Value) (e : Nat) : Th where
  P := fun w F => w.heap[g]? = some (.cells cs e (0, 0)) ∧ ∀ b, F b ↔ b = g
  foot := by
    rintro w F ⟨h1, h2⟩ b hb
    rw [(h2 b).1 hb]
    exact blk_lt h1
  step := by
    rintro w w' F ⟨h1, h2⟩ h
    exact ⟨(h g ((h2 g).2 rfl)).trans h1, h2⟩
section
variable {w0 w w' : World} {L : List Th} {α : Type} {d : Kd α} {e : Nat} {v : Value} {xs : List α}
theorem Sep.push_own {ok : Nat → Prop} (h : Sep w0 w L) (hr : d.R e w' w.heap.size ok v xs) (hb : Below w.heap.size w w') : Sep w0 w' (ownT d e v xs :: L) :=
  h.push (t := ownT d e v xs) hb (F := fun k => w.heap.size ≤ k ∧ k < w'.heap.size) ⟨⟨w.heap.size, Kd.R_mono (Kd.R_bound hr) (fun k hk => ⟨hk.2.1, hk.2.2.1⟩)⟩, fun b hb => hb.2⟩ (fun b hb => hb.1)
theorem Sep.push_rows {ok : Nat → Prop} (h : Sep w0 w L) (hr : Kd.S d e w' w.heap.size ok v xs) (hb : Below w.heap.size w w') : Sep w0 w' (rowsT d e v xs :: L) :=
  h.push (t := rowsT d e v xs) hb (F := fun k => w.heap.size ≤ k ∧ k < w'.heap.size) ⟨⟨w.heap.size, Kd.S_mono (Kd.S_bound hr) (fun k hk => ⟨hk.2.1, hk.2.2.1⟩)⟩, fun b hb => hb.2⟩ (fun b hb => hb.1)
theorem Sep.push_nil (h : Sep w0 w L) (d : Kd α) (e : Nat) : Sep w0 w (ownT d e (.slice none 0 0) [] :: L) :=
  h.push (t := ownT d e _ _) (Below.refl _ _) (F := fun _ => False) ⟨⟨0, Kd.R_nil _ _ _ _ _⟩, fun _ h => h.elim⟩ (fun _ h => h.elim)
theorem Sep.own (h : Sep w0 w (ownT d e v xs :: L)) : ∃ base ok, d.R e w base ok v xs := by
  obtain ⟨F, ⟨⟨base, h1⟩, _⟩, _⟩ := h.get
  exact ⟨base, F, h1⟩
theorem Sep.rows (h : Sep w0 w (rowsT d e v xs :: L)) : ∃ base ok, Kd.S d e w base ok v xs := by
  obtain ⟨F, ⟨⟨base, h1⟩, _⟩, _⟩ := h.get
  exact ⟨base, F, h1⟩
theorem Sep.rows_own (h : Sep w0 w (rowsT d e v xs :: L)) : Sep w0 w (ownT d e v xs :: L) :=
  h.conv (fun F hF => ⟨F, ⟨⟨hF.1.choose, Kd.S_R hF.1.choose_spec⟩, hF.2⟩, fun _ h => h⟩)
theorem Sep.cells {g : Nat} {cs : Array Value} (h : Sep w0 w (cellsT g cs e :: L)) : w.heap[g]? = some (.cells cs e (0, 0)) ∧ w0.heap.size ≤ g := by
  obtain ⟨F, h1, h2⟩ := h.get
  exact ⟨h1.1, h2 g ((h1.2 g).2 rfl)⟩
/-- A row of one's own is written, or lengthened (it may have moved). -/
theorem Sep.own_grown {v1 : Value} {ys : List α} {base0 : Nat} (h : Sep w0 w (ownT d e v xs :: L)) (hg : w.grownBy w' v.ownBlock)
    (hr : ∀ base ok, (∀ k, w.heap.size ≤ k → ok k) → d.R e w base ok v xs → d.R e w' base ok v1 ys) : Sep w0 w' (ownT d e v1 ys :: L) := by
  obtain ⟨F, ⟨⟨base, h1⟩, h2⟩, h3, h4⟩ := h.open1
  have h5 := hr base (fun k => F k ∨ w.heap.size ≤ k) (fun k hk => .inr hk) (Kd.R_mono h1 (fun _ hk => .inl hk))
  exact h4 (ownT d e v1 ys) w' (fun k => (F k ∨ w.heap.size ≤ k) ∧ k < w'.heap.size) ⟨⟨base, Kd.R_mono (Kd.R_bound h5) (fun k hk => ⟨hk.1, hk.2.2.1⟩)⟩, fun b hb => hb.2⟩ (fun b hb => hb.1) (Chg.of_grown hg (fun k hk => h1.1 k hk))
end
theorem Sep.open_own {w0 w : World} {L : List Th} {α : Type} {d : Kd α} {e : Nat} {v : Value} {xs : List α} (h : Sep w0 w (ownT d e v xs :: L)) : ∃ ok : Nat → Prop, (∀ k, w.heap.size ≤ k → ok k) ∧ d.R e w 0 ok v xs ∧
    ∀ (v1 : Value) (ys : List α) (w' : World), d.R e w' 0 ok v1 ys → w.grownBy w' v.ownBlock → Sep w0 w' (ownT d e v1 ys :: L) := by
  obtain ⟨F, ⟨⟨base, h1⟩, h2⟩, h3, h4⟩ := h.open1
  refine ⟨fun k => F k ∨ w.heap.size ≤ k, fun k hk => .inr hk, Kd.R_mono (Kd.R_lower h1 (Nat.zero_le _)) (fun _ hk => .inl hk), fun v1 ys w' hr hg => ?_⟩
  exact h4 (ownT d e v1 ys) w' (fun k => (F k ∨ w.heap.size ≤ k) ∧ k < w'.heap.size) ⟨⟨0, Kd.R_mono (Kd.R_bound hr) (fun k hk => ⟨hk.1, hk.2.2.1⟩)⟩, fun b hb => hb.2⟩ (fun b hb => hb.1) (Chg.of_grown hg (fun k hk => h1.1 k hk))
/-- A row's element of one cell is written. -/
theorem Sep.put {α : Type} {enc : α → Value} {h1 : ∀ x, (enc x).oneCell' = true} {w0 w : World} {L : List Th} {e g n cap : Nat} {xs : List α} (h : Sep w0 w (ownT (Kd.scalar enc h1) e (.slice (some ⟨g, 0, none⟩) n cap) xs :: L)) (i : Nat) (x : α) :
    Sep w0 (w.setCell ⟨g, i, none⟩ (enc x)) (ownT (Kd.scalar enc h1) e (.slice (some ⟨g, 0, none⟩) n cap) (xs.set i x) :: L) := by
  obtain ⟨F, ⟨⟨base, h2⟩, h3⟩, h4, h5⟩ := h.open1
  refine h5 (ownT _ e _ _) _ F ⟨⟨base, ?_⟩, fun b hb => by simpa [World.setCell] using h3 b hb⟩ (fun b hb => .inl hb) ((Chg.refl F w).setCell (h2.1 g rfl) i _)
  have h6 := Kd.R_putn h2 (i : Int) x
  rwa [Int.toNat_natCast] at h6
theorem Sep.cell {α : Type} {enc : α → Value} {h1 : ∀ x, (enc x).oneCell' = true} {w0 w : World} {L : List Th} {e g n cap : Nat} {xs : List α} (dflt : α) (h : Sep w0 w (ownT (Kd.scalar enc h1) e (.slice (some ⟨g, 0, none⟩) n cap) xs :: L)) (i : Nat) (hi : i < n) :
    w.cell? ⟨g, i, none⟩ = some (enc (xs.getD i dflt)) ∧ w.frozen? ⟨g, i, none⟩ = false := by
  obtain ⟨base, ok, h2⟩ := h.own
  have h3 := Kd.R_celln dflt h2 (i : Int) (by omega) (by omega)
  rw [Int.toNat_natCast] at h3
  exact h3
theorem add0' (b j : Nat) : (⟨b, 0, none⟩ : Addr).add j = ⟨b, j, none⟩ := by simp [Addr.add]; intro h; omega
section
variable {w0 w : World} {L : List Th} {bw n cw : Nat} {l : List (List Int)}
/-- A row of rows of bytes: what a cell of it holds. -/
theorem Sep.slot (h : Sep w0 w (ownT KB 28 (.slice (some ⟨bw, 0, none⟩) n cw) l :: L)) (i : Nat) (hi : i < n) :
    ∃ A c, w.cell? ⟨bw, i, none⟩ = some (.slice A (l.getD i []).length c) ∧ w.frozen? ⟨bw, i, none⟩ = false ∧ (Kd.int .u8).C w A (l.getD i []).length (l.getD i []) ∧ (l.getD i []).length ≤ c := by
  obtain ⟨base, ok, hr⟩ := h.own
  obtain ⟨hl, hl2, hC⟩ := Kd.R_reads' hr
  obtain ⟨adi, cei, ei, hcli, hKi, hcelli⟩ := Kd.C_get hC ([] : List Int) (i : Int) (by omega) (by omega)
  obtain ⟨Ai, ci, rfl, hli, hCi⟩ := hKi
  have hxi := hcelli 0 _ rfl
  rw [Int.toNat_natCast, show i * KB.sz + 0 = i from Nat.mul_one i] at hxi
  rw [Int.toNat_natCast] at hli hCi
  obtain rfl := Option.some.inj ei
  rw [add0'] at hxi
  obtain ⟨c, _, _, _, hf⟩ := Kd.R_elem hr [] (i : Int) (by omega) (by omega)
  have h2 := hf 0
  rw [Int.toNat_natCast, show i * KB.sz + 0 = i from Nat.mul_one i] at h2
  exact ⟨Ai, ci, hxi, h2, hCi, hli⟩
/-- A row becomes an element of it. -/
theorem Sep.put_row {v : Value} {x : List Int} (h : Sep w0 w (ownT (Kd.int .u8) 5 v x :: ownT KB 28 (.slice (some ⟨bw, 0, none⟩) n cw) l :: L)) (i : Nat) (hi : i < n) :
    Sep w0 (w.setCell ⟨bw, i, none⟩ v) (ownT KB 28 (.slice (some ⟨bw, 0, none⟩) n cw) (l.set i x) :: L) := by
  obtain ⟨U, ⟨F1, ⟨⟨b1, h1⟩, hlt1⟩, h2, F2, ⟨⟨b2, h4⟩, hlt2⟩, h5, _⟩, h6, h7⟩ := Sep.split (M := [ownT (Kd.int .u8) 5 v x, ownT KB 28 (.slice (some ⟨bw, 0, none⟩) n cw) l]) h
  have hbw : F2 bw := h4.1 bw rfl
  have hr : Kd.R KB 28 w 0 (fun k => F1 k ∨ F2 k) (.slice (some ⟨bw, 0, none⟩) n cw) l := Kd.R_mono (Kd.R_lower h4 (Nat.zero_le _)) (fun _ hk => .inr hk)
  obtain ⟨c0, hl, hM, hc, hfz⟩ := Kd.R_elem hr [] (i : Int) (by omega) (by omega)
  rw [Int.toNat_natCast] at hc
  have h3 := Kd.R_seg hr (i : Int) (by omega) (by omega) (j := 0) (seg := [v]) hl (by rw [Int.toNat_natCast]; exact hc) (show 0 + 1 ≤ 1 by decide) (x' := x) (okp := F1) (by
    have hl1 : c0.length = 1 := hl
    obtain ⟨u, rfl⟩ : ∃ u, c0 = [u] := by
      match c0, hl1 with
      | [u], _ => exact ⟨u, rfl⟩
    exact ⟨v, rfl, Kd.R_lower h1 (Nat.zero_le _)⟩) (fun k hk => ⟨.inl hk, fun e => (h5 bw hbw).2 (e ▸ hk)⟩)
  obtain ⟨h3, _⟩ := h3
  rw [Int.toNat_natCast] at h3
  have e : w.setCells bw (i * KB.sz + 0) [v] = w.setCell ⟨bw, i, none⟩ v := by
    show w.setCell ⟨bw, i * 1 + 0, none⟩ v = _
    rw [Nat.mul_one, Nat.add_zero]
  rw [e] at h3
  refine h7 [ownT KB 28 _ _] _ ⟨fun k => F1 k ∨ F2 k, ⟨⟨0, h3⟩, fun b hb => by simpa [World.setCell] using hb.elim (hlt1 b) (hlt2 b)⟩, fun b hb => .inl (hb.elim (h2 b) (fun h => (h5 b h).1)), trivial⟩ ((Chg.refl U w).setCell (h5 bw hbw).1 i v)
end
end Go.Proofs.Ytddnhcnkjcdfgaa.M
namespace Go.Proofs.Ytddnhcnkjcdfgaa.M
open Go.RowKit Go.Maps Go.Proofs.YtddnhcnkjcdfgaaW.PrintWords Go.Proofs.YtddnhcnkjcdfgaaW.PrintLast Go.Proofs.YtddnhcnkjcdfgaaW.PrintMore
set_option linter.unusedVariables false
set_option linter.unusedSimpArgs false
theorem DkIn.move {w w' : World} {base g lb cp mb k : Nat} {s : DS} {f : Nat → Value} {D : DataW Value} (h : DkIn w base g s lb cp mb f k D) (hm : ∀ b, Fp g lb mb f s.n b → w'.heap[b]? = w.heap[b]?) : DkIn w' base g s lb cp mb f k D := by
  refine ⟨(hm g (.inl rfl)).trans h.hd, h.la.step (fun b hb _ => hm b (.inr (.inl (Option.some.inj hb).symm))), ?_, h.kc, h.at_, h.ks, fun i hi => (h.rows i hi).step (fun b hb _ => hm b (.inr (.inr (.inr ⟨i, hi, hb⟩)))), h.wl, h.sep, h.sepl, h.gb, h.mbb, h.n2, h.nm⟩
  obtain ⟨es, ck, hb, r⟩ := h.mp
  exact ⟨es, ck, (hm mb (.inr (.inr (.inl rfl)))).trans hb, r⟩
def dkT (g : Nat) (s : DS) : Th where
  P := fun w F => ∃ base, DkAt w base g F s
  foot := by
    rintro w F ⟨base, h⟩ b hb
    exact (h.foot b hb).2
  step := by
    rintro w w' F ⟨base, lb, cp, mb, f, k, D, h1, h2⟩ h
    exact ⟨base, lb, cp, mb, f, k, D, h1.move (fun b hb => h b ((h2 b).2 hb)), h2⟩
section
variable {w0 w : World} {L : List Th} {g : Nat} {s : DS}
theorem Sep.dk_n (h : Sep w0 w (dkT g s :: L)) : 2 ≤ s.n ∧ s.n ≤ 65536 := by
  obtain ⟨F, ⟨base, h1⟩, _⟩ := h.get
  exact h1.n_le
theorem Sep.dk_lasts (h : Sep w0 w (dkT g s :: L)) : s.L.length = s.n ∧ ∀ x ∈ s.L, x.length = 512 := by
  obtain ⟨F, ⟨base, h1⟩, _⟩ := h.get
  exact h1.lasts
theorem Sep.read (h : Sep w0 w (dkT g s :: L)) (i : Nat) (hi : i < s.n) :
    Calls Try.prog 25 #[.pointer (some ⟨g, 0, none⟩), .int .i64 (i : Int)] w fun e w' => ∃ v, e = .returned (.tuple #[v, .int .i64 0]) ∧ Sep w0 w' (ownT (Kd.int .u8) 5 v (s.cur i) :: dkT g s.reads :: L) := by
  obtain ⟨F, ⟨base, h1⟩, h2, h3⟩ := h.open_
  refine (read_at g i w base F s h1 hi).mono ?_
  rintro e w' ⟨v, he, hr, hd, hc⟩
  refine ⟨v, he, h3 [ownT (Kd.int .u8) 5 v (s.cur i), dkT g s.reads] w' ⟨fun k => w.heap.size ≤ k ∧ k < w'.heap.size, ⟨⟨w.heap.size, Kd.R_mono (Kd.R_bound hr) (fun k hk => ⟨hk.2.1, hk.2.2.1⟩)⟩, fun b hb => hb.2⟩, fun b hb => .inr hb.1, F, ⟨base, hd⟩, fun b hb => ⟨.inl hb, fun hx => Nat.not_lt.2 hx.1 (h1.foot b hb).2⟩, trivial⟩ hc⟩
theorem Sep.flush (h : Sep w0 w (dkT g s :: L)) :
    Calls Try.prog 17 #[.pointer (some ⟨g, 0, none⟩)] w fun e w' => (∃ v, e = .returned v) ∧ Sep w0 w' (dkT g s.flush :: L) := by
  obtain ⟨F, ⟨base, h1⟩, h2, h3⟩ := h.open1
  refine (flush_at g w base F s h1).mono ?_
  rintro e w' ⟨he, F', hd, hF, hc⟩
  exact ⟨he, h3 (dkT g s.flush) w' F' ⟨base, hd⟩ (fun b hb => .inl (hF b hb)) hc⟩
theorem Sep.image (h : Sep w0 w (dkT g s :: L)) :
    Calls Try.prog 26 #[.pointer (some ⟨g, 0, none⟩)] w fun e w' => ∃ go c, e = .returned (.slice (some ⟨go, 0, none⟩) s.n c) ∧ Sep w0 w' (rowsT KB 28 (.slice (some ⟨go, 0, none⟩) s.n c) s.L :: dkT g s :: L) := by
  obtain ⟨F, ⟨base, h1⟩, h2, h3⟩ := h.open_
  refine (image_at g w base F s h1).mono ?_
  rintro e w' ⟨go, c, he, hr, hb⟩
  exact ⟨go, c, he, h.push_rows hr hb⟩
/-- What is written lay there ahead of the call, or is a row that is new. -/
theorem Sep.write (h : Sep w0 w (dkT g s :: L)) (i : Nat) (hi : i < s.n) (hc : s.c < 1073741824) (A : Option Addr) (c : Nat) (b : List Int) (hC : (Kd.int .u8).C w A 512 b) (hne : ∀ F ad, (∃ base, DkAt w base g F s) → (∀ b, F b → w0.heap.size ≤ b) → A = some ad → ¬ F ad.block) :
    Calls Try.prog 16 #[.pointer (some ⟨g, 0, none⟩), .int .i64 (i : Int), .slice A 512 c] w fun e w' => e = .returned (.int .i64 0) ∧ Sep w0 w' (dkT g (s.put i b) :: L) := by
  obtain ⟨F, ⟨base, h1⟩, h2, h3⟩ := h.open1
  refine (write_at g i A c b w base F s h1 hi hC (fun ad e => hne F ad ⟨base, h1⟩ h2 e) hc).mono ?_
  rintro e w' ⟨he, F', hd, hF, hch⟩
  exact ⟨he, h3 (dkT g (s.put i b)) w' F' ⟨base, hd⟩ hF hch⟩
theorem Sep.write_own (v : Value) (b : List Int) (h : Sep w0 w (ownT (Kd.int .u8) 5 v b :: dkT g s :: L)) (i : Nat) (hi : i < s.n) (hc : s.c < 1073741824) (hb : b.length = 512) :
    Calls Try.prog 16 #[.pointer (some ⟨g, 0, none⟩), .int .i64 (i : Int), v] w fun e w' => e = .returned (.int .i64 0) ∧ Sep w0 w' (ownT (Kd.int .u8) 5 v b :: dkT g (s.put i b) :: L) := by
  obtain ⟨base0, ok, hr⟩ := h.own
  obtain ⟨A, c, rfl⟩ := Kd.R_slice hr
  rw [hb]
  have hC := (Kd.R_reads' hr).2.2
  rw [hb] at hC
  obtain ⟨G, ⟨hG1, hG2⟩, hG3, hG4⟩ := h.open_
  obtain ⟨U, ⟨F0, h1, h2, F, ⟨base, h4⟩, h5, _⟩, h6, h7⟩ := Sep.split (M := [ownT (Kd.int .u8) 5 (.slice A b.length c) b, dkT g s]) h
  refine (write_at g i A c b w base F s h4 hi hC (fun ad e hF => ?_) hc).mono ?_
  · obtain ⟨⟨b2, hr2⟩, _⟩ := h1
    obtain ⟨g2, c2, e2, _⟩ := Kd.R_form hr2 (by omega)
    rw [e] at e2
    injection e2 with e2
    cases e2
    exact (h5 _ hF).2 (hr2.1 _ (by rw [e]; rfl))
  · rintro e w' ⟨he, F', hd, hF, hch⟩
    rw [← hb]
    refine ⟨he, h7 [ownT (Kd.int .u8) 5 (.slice A b.length c) b, dkT g (s.put i b)] w' ⟨F0, Th.step _ h1 (fun x hx => hch.block x (Th.foot _ h1 x hx) (fun hF => (h5 x hF).2 hx)), fun x hx => .inl (h2 x hx), F', ⟨base, hd⟩, fun x hx => ?_, trivial⟩ (hch.mono (fun x hx => (h5 x hx).1))⟩
    rcases hF x hx with hx1 | hx1
    · exact ⟨.inl (h5 x hx1).1, (h5 x hx1).2⟩
    · exact ⟨.inr hx1, fun hx2 => Nat.not_lt.2 hx1 (Th.foot _ h1 x hx2)⟩
/-- The fates are a row of the call's own. -/
theorem Sep.crash_own (fs : List Int) (v : Value) (h : Sep w0 w (ownT (Kd.int .i64) 3 v fs :: dkT g s :: L)) (hc : s.c < 1073741824) :
    Calls Try.prog 30 #[.pointer (some ⟨g, 0, none⟩), v] w fun e w' => (∃ v, e = .returned v) ∧ Sep w0 w' (ownT (Kd.int .i64) 3 v fs :: dkT g (s.crash fs) :: L) := by
  obtain ⟨base0, ok, hr⟩ := h.own
  obtain ⟨A, c, rfl⟩ := Kd.R_slice hr
  obtain ⟨U, ⟨F0, h1, h2, F, ⟨base, h4⟩, h5, _⟩, h6, h7⟩ := Sep.split (M := [ownT (Kd.int .i64) 3 (.slice A fs.length c) fs, dkT g s]) h
  obtain ⟨⟨b2, hr2⟩, hlt⟩ := h1
  refine (crash_at g w base F s h4 hc A c fs (fun W hW => (Kd.R_reads' (Kd.R_step hr2 (fun k hk hlt => hW.block k hlt (fun hF => (h5 k hF).2 hk)))).2.2) (fun ad e hp hF => ?_)).mono ?_
  · obtain ⟨g2, c2, e2, _⟩ := Kd.R_form hr2 hp
    rw [e] at e2
    injection e2 with e2
    cases e2
    exact (h5 _ hF).2 (hr2.1 _ (by rw [e]; rfl))
  · rintro e w' ⟨he, F', hd, hF, hch⟩
    exact ⟨he, h7 [ownT (Kd.int .i64) 3 (.slice A fs.length c) fs, dkT g (s.crash fs)] w' ⟨F0, Th.step (ownT (Kd.int .i64) 3 (.slice A fs.length c) fs) ⟨⟨b2, hr2⟩, hlt⟩ (fun x hx => hch.block x (hlt x hx) (fun hF => (h5 x hF).2 hx)), fun x hx => .inl (h2 x hx), F', ⟨base, hd⟩, fun x hx => ⟨.inl (h5 x (hF x hx)).1, (h5 x (hF x hx)).2⟩, trivial⟩ (hch.mono (fun x hx => (h5 x hx).1))⟩
/-- The fates lay there ahead. -/
theorem Sep.crash_arg (h : Sep w0 w (dkT g s :: L)) (hc : s.c < 1073741824) (A1 : Option Addr) (c1 : Nat) (fs : List Int) (hC : (Kd.int .i64).C w0 A1 fs.length fs) :
    Calls Try.prog 30 #[.pointer (some ⟨g, 0, none⟩), .slice A1 fs.length c1] w fun e w' => (∃ v, e = .returned v) ∧ Sep w0 w' (dkT g (s.crash fs) :: L) := by
  obtain ⟨F, ⟨base, h1⟩, h2, h3⟩ := h.open1
  refine (crash_at g w base F s h1 hc A1 c1 fs (fun W hW => Kd.C_below hC (Chg.below h.below hW h.size h2)) (fun ad e hp hf => by
    have h1_ := h2 _ hf
    obtain ⟨ad2, e2, hcell⟩ := Kd.at_int hC 0 (by omega) (by omega)
    rw [e] at e2
    obtain rfl := Option.some.inj e2
    have h2_ := World.block_lt_of_cell? w0 _ hcell
    have e_ : (ad.add (0 : Int).toNat).block = ad.block := by unfold Addr.add; split <;> rfl
    rw [e_] at h2_
    omega)).mono ?_
  rintro e w' ⟨he, F', hd, hF', hx⟩
  exact ⟨he, h3 (dkT g (s.crash fs)) w' F' ⟨base, hd⟩ (fun b hb => .inl (hF' b hb)) hx⟩
end
theorem Sep.new {w0 w : World} {L : List Th} (h : Sep w0 w L) (n : Nat) (h2 : 2 ≤ n) (hm : n ≤ 65536) :
    Calls Try.prog 21 #[.int .i64 (n : Int)] w fun e w' => ∃ g, e = .returned (.tuple #[.pointer (some ⟨g, 0, none⟩), .int .i64 0]) ∧ Sep w0 w' (dkT g (DS.fresh n (List.replicate n zeros)) :: L) := by
  refine (new_calls n w h2 hm).mono ?_
  rintro e w' ⟨g, F, he, hd, hb⟩
  exact ⟨g, he, h.push (t := dkT g _) hb (F := F) ⟨_, hd⟩ (fun b hb => (hd.foot b hb).1)⟩
end Go.Proofs.Ytddnhcnkjcdfgaa.M
namespace Go.Proofs.Ytddnhcnkjcdfgaa.M
open Go.RowKit Go.Maps Go.Proofs.YtddnhcnkjcdfgaaW.PrintWords Go.Proofs.YtddnhcnkjcdfgaaW.PrintLast Go.Proofs.YtddnhcnkjcdfgaaW.PrintMore
set_option linter.unusedVariables false
set_option linter.unusedSimpArgs false
/-- A byte of a row is turned by a mask. -/
def flipL (q : Nat) (m : Int) (l : List Int) : List Int := l.set q (bits .xor .u8 (l.getD q 0) m)
theorem flipL_len (q : Nat) (m : Int) (l : List Int) : (flipL q m l).length = l.length := List.length_set
theorem nums_set (l : List Int) (q : Nat) (v : Int) : nums .u8 (l.set q v) = (nums .u8 l).set q (.int .u8 v) := by unfold nums; rw [List.map_set]
/-- One cell of a row of sectors is written. -/
theorem Rs.put1 {w : World} {base b n c : Nat} {l : List (List Int)} (h : Rs w base (.slice (some ⟨b, 0, none⟩) n c) l) (i : Nat) (hi : i < n) (q : Nat) (hq : q < 512) (v : Int) :
    Rs (w.setCell ⟨b, i * 512 + q, none⟩ (.int .u8 v)) base (.slice (some ⟨b, 0, none⟩) n c) (l.set i ((l.getD i []).set q v)) ∧ w.grownBy (w.setCell ⟨b, i * 512 + q, none⟩ (.int .u8 v)) (some b) := by
  obtain ⟨c0, hl, hM, hc, hf⟩ := Kd.R_elem h [] (i : Int) (by omega) (by omega)
  have hl' : c0.length = 512 := hl
  obtain ⟨hM1, hM2⟩ : (l.getD i []).length = 512 ∧ c0 = nums .u8 (l.getD i []) := hM
  have h3 := Kd.R_seg h (i : Int) (by omega) (by omega) (j := q) (seg := [.int .u8 v]) hl hc (by show q + 1 ≤ 512; omega) (x' := (l.getD i []).set q v) (okp := fun _ => False) ⟨by rw [List.length_set]; exact hM1, by
    rw [nums_set, hM2, List.length_singleton]
    rw [hM2] at hl'
    rw [List.set_eq_take_append_cons_drop, if_pos (by rw [hl']; exact hq), List.append_assoc]
    rfl⟩ (fun _ h => h.elim)
  rw [Int.toNat_natCast] at h3
  exact ⟨Rs.of h3.1, h3.2⟩
theorem Rs.cell1 {w : World} {base b n c : Nat} {l : List (List Int)} (h : Rs w base (.slice (some ⟨b, 0, none⟩) n c) l) (i : Nat) (hi : i < n) (q : Nat) (hq : q < 512) :
    w.cell? ⟨b, i * 512 + q, none⟩ = some (.int .u8 ((l.getD i []).getD q 0)) ∧ w.frozen? ⟨b, i * 512 + q, none⟩ = false := by
  obtain ⟨c0, hl, hM, hc, hf⟩ := Kd.R_elem h [] (i : Int) (by omega) (by omega)
  obtain ⟨hM1, hM2⟩ : (l.getD i []).length = 512 ∧ c0 = nums .u8 (l.getD i []) := hM
  refine ⟨hc q _ ?_, hf q⟩
  rw [hM2]
  unfold nums
  rw [List.getElem?_map, List.getElem?_eq_getElem (by omega), List.getD_eq_getElem?_getD (l := l.getD i []), List.getElem?_eq_getElem (by omega)]
  rfl
section
variable {w : World} {base g lb cp mb k : Nat} {s : DS} {f : Nat → Value} {D : DataW Value}
theorem DkIn.putL1 (h : DkIn w base g s lb cp mb f k D) (i : Nat) (hi : i < s.n) (q : Nat) (hq : q < 512) (v : Int) :
    DkIn (w.setCell ⟨lb, i * 512 + q, none⟩ (.int .u8 v)) base g ⟨s.n, s.L.set i ((s.L.getD i []).set q v), s.W, s.c, s.r, s.wr, s.fl⟩ lb cp mb f k D ∧ w.grownBy (w.setCell ⟨lb, i * 512 + q, none⟩ (.int .u8 v)) (some lb) := by
  obtain ⟨h3, h4⟩ := h.la.put1 i hi q hq v
  exact ⟨⟨blk_grown h.hd h4 (by have := h.lbg; simpa using this.symm), h3, h.mp.kept h4 (by have := h.mbl; simpa using this), h.kc, h.at_, h.ks, fun j hj => (h.rows j hj).step (fun q hq hlt => h4.block q hlt (by have := (h.rowg hj hq).2.2; simpa using this)), h.wl, h.sep, h.sepl, h.gb, h.mbb, h.n2, h.nm⟩, h4⟩
theorem DkIn.putW1 (h : DkIn w base g s lb cp mb f k D) (i : Nat) (hi : i < s.n) {b7 c7 : Nat} (hf : f i = .slice (some ⟨b7, 0, none⟩) (s.W i).length c7) (j : Nat) (hj : j < (s.W i).length) (q : Nat) (hq : q < 512) (v : Int) :
    DkIn (w.setCell ⟨b7, j * 512 + q, none⟩ (.int .u8 v)) base g ⟨s.n, s.L, fun x => if x = i then (s.W i).set j (((s.W i).getD j []).set q v) else s.W x, s.c, s.r, s.wr, s.fl⟩ lb cp mb f k D ∧ w.grownBy (w.setCell ⟨b7, j * 512 + q, none⟩ (.int .u8 v)) (some b7) := by
  obtain ⟨h3, h4⟩ := (hf ▸ h.rows i hi).put1 j hj q hq v
  have hob : (f i).ownBlock = some b7 := by rw [hf]; rfl
  have hr := h.rowg hi hob
  refine ⟨⟨blk_grown h.hd h4 (by simpa using hr.1.symm), h.la.step (fun x hx hlt => h4.block x hlt (by cases hx; simpa using fun e => hr.2.2 e.symm)), h.mp.kept h4 (by simpa using hr.2.1.symm), h.kc, h.at_, fun kl hk => ?_, fun x hx => ?_, fun x hx => ?_, h.sep, h.sepl, h.gb, h.mbb, h.n2, h.nm⟩, h4⟩
  · obtain ⟨x, hx, e1, e2⟩ := h.ks kl hk
    refine ⟨x, hx, e1, ?_⟩
    show (if x = i then (s.W i).set j _ else s.W x) ≠ []
    split
    · intro e; have := congrArg List.length e; rw [List.length_set, List.length_nil] at this; omega
    · exact e2
  · show Rs _ base (f x) (if x = i then (s.W i).set j (((s.W i).getD j []).set q v) else s.W x)
    by_cases e : x = i
    · rw [if_pos e, e, hf]; exact h3
    · rw [if_neg e]
      exact (h.rows x hx).step (fun y hy hlt => h4.block y hlt (by intro e2; injection e2 with e2; exact e (h.sep x i b7 hx hi (e2 ▸ hy) hob)))
  · show (if x = i then (s.W i).set j _ else s.W x).length ≤ s.c
    split
    · rw [List.length_set]; exact h.wl i hi
    · exact h.wl x hx
end
end Go.Proofs.Ytddnhcnkjcdfgaa.M
namespace Go.Proofs.Ytddnhcnkjcdfgaa.M
open Go.RowKit Go.Maps Go.Proofs.YtddnhcnkjcdfgaaW.PrintWords Go.Proofs.YtddnhcnkjcdfgaaW.PrintLast Go.Proofs.YtddnhcnkjcdfgaaW.PrintMore
set_option linter.unusedVariables false
set_option linter.unusedSimpArgs false
/-- The mask of a bit. -/
def mskB (r : Nat) : Int := ((2 ^ r : Nat) : Int)
def DS.turn (s : DS) (i bit : Nat) : DS := ⟨s.n, s.L.set i (flipL (bit / 8) (mskB (bit % 8)) (s.L.getD i [])), fun x => if x = i then (s.W i).map (flipL (bit / 8) (mskB (bit % 8))) else s.W x, s.c, s.r, s.wr, s.fl⟩
/-- The first j of the sector's writes have been turned. -/
def DS.turnH (s : DS) (i q : Nat) (m : Int) (j : Nat) : DS := ⟨s.n, s.L.set i (flipL q m (s.L.getD i [])), fun x => if x = i then ((s.W i).take j).map (flipL q m) ++ (s.W i).drop j else s.W x, s.c, s.r, s.wr, s.fl⟩
theorem DS.turnH_W (s : DS) (i q : Nat) (m : Int) (j : Nat) : (s.turnH i q m j).W i = ((s.W i).take j).map (flipL q m) ++ (s.W i).drop j := by unfold DS.turnH; simp only [if_true]
theorem DS.turnH_len (s : DS) (i q : Nat) (m : Int) (j : Nat) (hj : j ≤ (s.W i).length) : ((s.turnH i q m j).W i).length = (s.W i).length := by
  rw [DS.turnH_W, List.length_append, List.length_map, List.length_take, List.length_drop]
  omega
theorem DS.turnH_at (s : DS) (i q : Nat) (m : Int) (j : Nat) (hj : j < (s.W i).length) : ((s.turnH i q m j).W i).getD j [] = (s.W i).getD j [] := by
  have hl : (((s.W i).take j).map (flipL q m)).length = j := by rw [List.length_map, List.length_take]; omega
  rw [DS.turnH_W, List.getD_eq_getElem?_getD, List.getElem?_append_right (by omega), hl, Nat.sub_self, List.getElem?_drop, Nat.add_zero, ← List.getD_eq_getElem?_getD]
theorem DS.turnH_succ (s : DS) (i q : Nat) (m : Int) (j : Nat) (hj : j < (s.W i).length) :
    (⟨(s.turnH i q m j).n, (s.turnH i q m j).L, fun x => if x = i then ((s.turnH i q m j).W i).set j ((((s.turnH i q m j).W i).getD j []).set q (bits .xor .u8 (((s.W i).getD j []).getD q 0) m)) else (s.turnH i q m j).W x, (s.turnH i q m j).c, (s.turnH i q m j).r, (s.turnH i q m j).wr, (s.turnH i q m j).fl⟩ : DS) = s.turnH i q m (j + 1) := by
  rw [s.turnH_at i q m j hj]
  unfold DS.turnH
  congr 1
  funext x
  dsimp only
  by_cases e : x = i
  · subst e
    simp only [if_true]
    have hl : (((s.W x).take j).map (flipL q m)).length = j := by rw [List.length_map, List.length_take]; omega
    rw [List.set_append_right _ _ (by omega), hl, Nat.sub_self, List.drop_eq_getElem_cons hj, List.set_cons_zero, List.take_succ_eq_append_getElem hj, List.map_append, List.append_assoc]
    congr 1
    rw [List.getD_eq_getElem?_getD, List.getElem?_eq_getElem hj]
    rfl
  · rw [if_neg e, if_neg e, if_neg e]
theorem DS.turnH_all (s : DS) (i q : Nat) (m : Int) : s.turnH i q m (s.W i).length = ⟨s.n, s.L.set i (flipL q m (s.L.getD i [])), fun x => if x = i then (s.W i).map (flipL q m) else s.W x, s.c, s.r, s.wr, s.fl⟩ := by
  unfold DS.turnH
  rw [List.take_length, List.drop_length, List.append_nil]
def turn6_T : Bool × List (List Nat × List Nat) := (true, [([], []), ([0], [0]), ([1], [1]), ([2], [2]), ([], []), ([], []), ([5], [5]), ([3, 4], [3, 4]), ([7, 6], [6, 7]), ([8], [8]), ([], []), ([9, 10], [9, 10]), ([3, 4], [3, 4]), ([12, 6, 0, 1, 2, 3, 4, 5, 6, 7, 8, 9, 10, 11], [6, 12]), ([13, 11, 0, 1, 2, 3, 4, 5, 6, 7, 8, 9, 10, 11], [11, 13])])
def turn6_B : List Nat := [0, 1, 3, 7, 0, 0, 32, 31, 255, 511, 0, 2047, 31, 8191, 16383]
theorem turn6_tab : rtab .any (opsOf Try.f33 6) = turn6_T := by kernel_rfl
theorem turn6_bits : waitsOk turn6_T.2 turn6_B = true := by kernel_rfl
def turn10_T : Bool × List (List Nat × List Nat) := (true, [([], []), ([0], [0]), ([1], [1]), ([2], [2]), ([], []), ([3, 4], [3, 4]), ([], []), ([], []), ([7], [7]), ([5, 6], [5, 6]), ([9, 8], [8, 9]), ([10], [10]), ([], []), ([11, 12], [11, 12]), ([5, 6], [5, 6]), ([14, 8, 0, 1, 2, 3, 4, 5, 6, 7, 8, 9, 10, 11, 12, 13], [8, 14]), ([15, 13, 0, 1, 2, 3, 4, 5, 6, 7, 8, 9, 10, 11, 12, 13], [13, 15])])
def turn10_B : List Nat := [0, 1, 3, 7, 0, 31, 0, 0, 128, 127, 1023, 2047, 0, 8191, 127, 32767, 65535]
theorem turn10_tab : rtab .any (opsOf Try.f33 10) = turn10_T := by kernel_rfl
theorem turn10_bits : waitsOk turn10_T.2 turn10_B = true := by kernel_rfl
set_option maxHeartbeats 1000000 in
set_option maxRecDepth 100000 in
theorem turn_in (g i bit : Nat) (w : World) (base lb cp mb k : Nat) (f : Nat → Value) (D : DataW Value) (s : DS) (h : DkIn w base g s lb cp mb f k D) (hi : i < s.n) (hb : bit < 4096) :
    Calls Try.prog 33 #[.pointer (some ⟨g, 0, none⟩), .int .i64 (i : Int), .int .i64 (bit : Int)] w fun e w' => e = .returned (.int .i64 0) ∧ DkIn w' base g (s.turn i bit) lb cp mb f k D ∧ Chg (fun x => x = lb ∨ (f i).ownBlock = some x) w w' := by
  have hn2 := h.n2
  have hnm := h.nm
  have hg0 : w.cell? ⟨g, 0, none⟩ = some (.slice (some ⟨lb, 0, none⟩) s.n cp) := blk_cell h.hd 0
  have Hout := Aside0.mk (show Calls Try.prog 41 #[.pointer (some ⟨g, 0, none⟩), .int .i64 (i : Int)] w fun e w' => e = .returned (.bool false) ∧ w' = w from by
    have h_ := outside_calls g (i : Int) s.n (some ⟨lb, 0, none⟩) cp w hg0
    rw [show (!decide (0 ≤ (i : Int) ∧ (i : Int) < (s.n : Int))) = false by simp; omega] at h_
    exact h_)
  have HI := Aside0.mk hi
  have hi0 : (0 : Int) ≤ (i : Int) := by omega
  have hi1 : (i : Int) < (s.n : Int) := by omega
  have hq8 : bit / 8 < 512 := by omega
  obtain ⟨q, hq⟩ : ∃ x, x = bit / 8 := ⟨_, rfl⟩
  obtain ⟨r, hr⟩ : ∃ x, x = bit % 8 := ⟨_, rfl⟩
  have hqi : (bit : Int) / 8 = (q : Int) := by omega
  have hri : (bit : Int) % 8 = (r : Int) := by omega
  rw [← hq] at hq8
  have hr8 : r < 8 := by omega
  have HQ := Aside0.mk hq
  have HR := Aside0.mk hr
  obtain ⟨hc, hf⟩ := h.la.cell1 i hi q hq8
  have H0 := Aside0.mk h
  have hb0 : decide ((bit : Int) < 0) = false := decide_eq_false (by omega)
  have hb1 : decide ((4096 : Int) ≤ (bit : Int)) = false := decide_eq_false (by omega)
  clear h hi hq hr
  go_enter Try.func33, Try.ntmps33
  go_upto_region 6 with (go_at_call 41; (with_reducible refine Hout.out.mono ?_); rintro e w1 ⟨rfl, hw_⟩; subst hw_)
  rw [hri]
  clear hri
  rw [show (2 : Int) ^ r % 256 = mskB r from by rcases r with _ | _ | _ | _ | _ | _ | _ | _ | r <;> first | rfl | omega]
  obtain ⟨m, hm⟩ : ∃ x, x = mskB r := ⟨_, rfl⟩
  rw [← hm]
  have HM := Aside0.mk hm
  have hq0 : (0 : Int) ≤ (q : Int) := by omega
  have hq1 : (q : Int) < 512 := by omega
  have hq2 : (q : Int).toNat = q := rfl
  obtain ⟨x, hx⟩ : ∃ x, x = (s.L.getD i []).getD q 0 := ⟨_, rfl⟩
  rw [← hx] at hc
  have HX := Aside0.mk hx
  clear hm hx
  have HB2 := Aside0.mk (below_drew1 (Below.refl w1.heap.size w1))
  have hf2 : w1.drew.frozen? ⟨lb, i * 512 + q, none⟩ = false := by simpa using hf
  have hqw : wrap64 (q : Int) = (q : Int) := by unfold wrap64; omega
  refine start_ (n := 15) (S := fun W => W.cell? ⟨g, 0, none⟩ = some (.slice (some ⟨lb, 0, none⟩) s.n cp) ∧ W.cell? ⟨lb, i * 512 + q, none⟩ = some (.int .u8 x)) (ds := [14]) #[false, false, false, false, false, false, false, false, false, false, false, false, false, false, false] (by kernel_rfl) rfl rfl (⟨hg0, hc⟩) (fun hHeld => ?_); refine with_tabW turn6_tab turn6_bits (fun HT_ HW_ => ?_)
  generalize w1.drew = w2 at hHeld HB2 hf2 ⊢
  refine pure_ (i := 0) (N := (some 23)) (v := ?_) (a' := ?_) #[true, false, false, false, false, false, false, false, false, false, false, false, false, false, false] rfl rfl (any_of HT_.out (by kernel_rfl)) (fun _ _ _ h => h) (Or.inl ⟨by rfl, ?_⟩) ?_ ?_
  rotate_left
  · intro w'
    go_simp
    with_reducible rfl
  rotate_left
  · simp only [Act.put, List.setIfInBounds_toArray, List.set_cons_zero, List.set_cons_succ, i64_w, i32_w]
    rfl
  refine pure_ (i := 1) (N := (some 24)) (v := ?_) (a' := ?_) #[true, true, false, false, false, false, false, false, false, false, false, false, false, false, false] rfl rfl (any_of HT_.out (by kernel_rfl)) (fun _ _ _ h => h) (Or.inl ⟨by rfl, ?_⟩) ?_ ?_
  rotate_left
  · intro w'
    go_simp
    with_reducible rfl
  rotate_left
  · simp only [Act.put, List.setIfInBounds_toArray, List.set_cons_zero, List.set_cons_succ, i64_w, i32_w]
    rfl
  refine pure_ (i := 2) (N := (some 25)) (v := ?_) (a' := ?_) #[true, true, true, false, false, false, false, false, false, false, false, false, false, false, false] rfl rfl (any_of HT_.out (by kernel_rfl)) (fun _ _ _ h => h) (Or.inl ⟨by rfl, ?_⟩) ?_ ?_
  rotate_left
  · intro w'
    go_simp
    with_reducible rfl
  rotate_left
  · simp only [Act.put, List.setIfInBounds_toArray, List.set_cons_zero, List.set_cons_succ, i64_w, i32_w]
    rfl
  refine take_ (i := 3) (N := (some 26)) (v := ?_) (a' := ?_) #[true, true, true, true, false, false, false, false, false, false, false, false, false, false, false] rfl rfl (take_ofW HT_.out HW_.out (by kernel_rfl)) (fun _ _ _ h => h) (Or.inl ⟨by rfl, ?_⟩) hHeld ?_ ?_
  rotate_left
  · intro w' s0
    (try dsimp only at s0)
    go_simp
    with_reducible rfl
  rotate_left
  · simp only [Act.put, List.setIfInBounds_toArray, List.set_cons_zero, List.set_cons_succ, i64_w, i32_w]
    rfl
  refine pure_ (i := 4) (N := (some 27)) (v := ?_) (a' := ?_) #[true, true, true, true, true, false, false, false, false, false, false, false, false, false, false] rfl rfl (any_of HT_.out (by kernel_rfl)) (fun _ _ _ h => h) (Or.inl ⟨by rfl, ?_⟩) ?_ ?_
  rotate_left
  · intro w'
    go_simp
    with_reducible rfl
  rotate_left
  · simp only [Act.put, List.setIfInBounds_toArray, List.set_cons_zero, List.set_cons_succ, i64_w, i32_w]
    rfl
  refine pure_ (i := 5) (N := (some 28)) (v := ?_) (a' := ?_) #[true, true, true, true, true, true, false, false, false, false, false, false, false, false, false] rfl rfl (any_of HT_.out (by kernel_rfl)) (fun _ _ _ h => h) (Or.inl ⟨by rfl, ?_⟩) ?_ ?_
  rotate_left
  · intro w'
    go_simp
    with_reducible rfl
  rotate_left
  · simp only [Act.put, List.setIfInBounds_toArray, List.set_cons_zero, List.set_cons_succ, i64_w, i32_w]
    rfl
  refine pure_ (i := 6) (N := (some 29)) (v := ?_) (a' := ?_) #[true, true, true, true, true, true, true, false, false, false, false, false, false, false, false] rfl rfl (any_of HT_.out (by kernel_rfl)) (fun _ _ _ h => h) (Or.inl ⟨by rfl, ?_⟩) ?_ ?_
  rotate_left
  · intro w'
    go_simp
    with_reducible rfl
  rotate_left
  · simp only [Act.put, List.setIfInBounds_toArray, List.set_cons_zero, List.set_cons_succ, i64_w, i32_w]
    rfl
  refine pure_ (i := 7) (N := (some 30)) (v := ?_) (a' := ?_) #[true, true, true, true, true, true, true, true, false, false, false, false, false, false, false] rfl rfl (any_of HT_.out (by kernel_rfl)) (fun _ _ _ h => h) (Or.inl ⟨by rfl, ?_⟩) ?_ ?_
  rotate_left
  · intro w'
    go_simp
    with_reducible rfl
  rotate_left
  · simp only [Act.put, List.setIfInBounds_toArray, List.set_cons_zero, List.set_cons_succ, i64_w, i32_w]
    rfl
  refine pure_ (i := 8) (N := (some 31)) (v := ?_) (a' := ?_) #[true, true, true, true, true, true, true, true, true, false, false, false, false, false, false] rfl rfl (any_of HT_.out (by kernel_rfl)) (fun _ _ _ h => h) (Or.inl ⟨by rfl, ?_⟩) ?_ ?_
  rotate_left
  · intro w'
    go_simp
    with_reducible rfl
  rotate_left
  · simp only [Act.put, List.setIfInBounds_toArray, List.set_cons_zero, List.set_cons_succ, i64_w, i32_w]
    rfl
  refine take_ (i := 9) (N := (some 32)) (v := ?_) (a' := ?_) #[true, true, true, true, true, true, true, true, true, true, false, false, false, false, false] rfl rfl (take_ofW HT_.out HW_.out (by kernel_rfl)) (fun _ _ _ h => h) (Or.inl ⟨by rfl, ?_⟩) hHeld ?_ ?_
  rotate_left
  · intro w' s0
    (try dsimp only at s0)
    go_simp
    with_reducible rfl
  rotate_left
  · simp only [Act.put, List.setIfInBounds_toArray, List.set_cons_zero, List.set_cons_succ, i64_w, i32_w]
    rfl
  refine pure_ (i := 10) (N := (some 33)) (v := ?_) (a' := ?_) #[true, true, true, true, true, true, true, true, true, true, true, false, false, false, false] rfl rfl (any_of HT_.out (by kernel_rfl)) (fun _ _ _ h => h) (Or.inl ⟨by rfl, ?_⟩) ?_ ?_
  rotate_left
  · intro w'
    go_simp
    with_reducible rfl
  rotate_left
  · simp only [Act.put, List.setIfInBounds_toArray, List.set_cons_zero, List.set_cons_succ, i64_w, i32_w]
    rfl
  refine pure_ (i := 11) (N := (some 34)) (v := ?_) (a' := ?_) #[true, true, true, true, true, true, true, true, true, true, true, true, false, false, false] rfl rfl (any_of HT_.out (by kernel_rfl)) (fun _ _ _ h => h) (Or.inl ⟨by rfl, ?_⟩) ?_ ?_
  rotate_left
  · intro w'
    go_simp
    with_reducible rfl
  rotate_left
  · simp only [Act.put, List.setIfInBounds_toArray, List.set_cons_zero, List.set_cons_succ, i64_w, i32_w]
    rfl
  refine pure_ (i := 12) (N := (some 35)) (v := ?_) (a' := ?_) #[true, true, true, true, true, true, true, true, true, true, true, true, true, false, false] rfl rfl (any_of HT_.out (by kernel_rfl)) (fun _ _ _ h => h) (Or.inl ⟨by rfl, ?_⟩) ?_ ?_
  rotate_left
  · intro w'
    go_simp
    with_reducible rfl
  rotate_left
  · simp only [Act.put, List.setIfInBounds_toArray, List.set_cons_zero, List.set_cons_succ, i64_w, i32_w]
    rfl
  refine pure_ (i := 13) (N := (some 36)) (v := ?_) (a' := ?_) #[true, true, true, true, true, true, true, true, true, true, true, true, true, true, false] rfl rfl (any_of HT_.out (by kernel_rfl)) (fun _ _ _ h => h) (Or.inl ⟨by rfl, ?_⟩) ?_ ?_
  rotate_left
  · intro w'
    go_simp
    with_reducible rfl
  rotate_left
  · simp only [Act.put, List.setIfInBounds_toArray, List.set_cons_zero, List.set_cons_succ, i64_w, i32_w]
    rfl
  refine last_ (i := 14) (N := none) #[true, true, true, true, true, true, true, true, true, true, true, true, true, true, true] rfl rfl (one_of HT_.out (by kernel_rfl)) (by decide) (fun K hK => ?_)
  refine skip_ (w1 := ?_) (by rfl) rfl ?_ ?_
  rotate_left
  · go_simp
    first | rfl | (constructor <;> rfl)
  refine hK.out _ _ ?_
  clear hK K
  refine done_ (done_of HT_.out (by kernel_rfl)) ?_
  have hs1 : (⟨s.n, s.L.set i ((s.L.getD i []).set q (bits .xor .u8 x m)), s.W, s.c, s.r, s.wr, s.fl⟩ : DS) = s.turnH i q m 0 := by
    unfold DS.turnH flipL
    rw [List.take_zero, List.map_nil, List.nil_append, List.drop_zero, ← HX.out]
    congr 1
    funext y
    by_cases e : y = i
    · rw [if_pos e, e]
    · rw [if_neg e]
  have HD0 := (H0.out.chg (G := fun _ => False) (Chg.of_below HB2.out) (fun _ _ => id)).putL1 i HI.out q hq8 (bits .xor .u8 x m)
  rw [hs1] at HD0
  have HD := Aside0.mk HD0.1
  have HC := Aside0.mk ((Chg.of_below (F := fun x => x = lb ∨ (f i).ownBlock = some x) HB2.out).trans (Chg.of_grown (F := fun x => x = lb) HD0.2 (fun k hk => (Option.some.inj hk).symm)) (fun x hx => .inl (.inl hx)))
  obtain ⟨A7, c7, e7⟩ := Kd.R_slice (H0.out.rows i HI.out)
  have HWl := Aside0.mk (Kd.R_reads' (e7 ▸ H0.out.rows i HI.out)).2.2.2.1
  clear hs1 HD0 hHeld HB2 hf2 hf hc hg0 hqw Hout
  generalize w2.setCell ⟨lb, i * 512 + q, none⟩ (.int .u8 (bits .xor .u8 x m)) = w3 at HD HC ⊢
  have hg1 : w3.cell? ⟨g, 1, none⟩ = some (.map (some mb)) := blk_cell HD.out.hd 1
  have hlk : (Instr.lookup 87 (.map (some mb)) (.int .i64 (i : Int)) false).run Try.prog w3 = .ok (.slice A7 (s.W i).length c7) w3 := e7 ▸ HD.out.look i HI.out
  have hW0 := HWl.out
  have HE := Aside0.mk e7
  obtain ⟨ln, hln⟩ : ∃ x, x = (s.W i).length := ⟨_, rfl⟩
  rw [← hln] at hlk hW0
  have HLN := Aside0.mk hln
  clear e7 hln
  go_wp2
  go_loopg [44] ln (fun kq v44 wr => ∃ j : Nat, v44 = .int .i64 j ∧ Aside0 (j + kq = ln) ∧ Aside0 (DkIn wr base g (s.turnH i q m j) lb cp mb f k D) ∧ Aside0 (Chg (fun x => x = lb ∨ (f i).ownBlock = some x) w1 wr))
  case atStart => exact ⟨0, rfl, ⟨Nat.zero_add _⟩, HD, HC⟩
  case round =>
    clear HD HC hg1 hlk
    obtain ⟨j, rfl, HJ, HD, HC⟩ := hrel
    by_cases hj : j < ln
    · have hjb : decide (j < ln) = true := decide_eq_true hj
      have hj0 : (0 : Int) ≤ (j : Int) := by omega
      have hj1 : (j : Int) < (ln : Int) := by omega
      have HJ1 := Aside0.mk hj
      obtain ⟨b7, c7', e7, _⟩ := Kd.R_form (H0.out.rows i HI.out) (by rw [← HLN.out]; omega)
      have e7' := HE.out
      rw [e7, ← HLN.out] at e7'
      injection e7' with e71 _ e72
      subst e71
      subst e72
      have hlj := s.turnH_len i q m j (by rw [← HLN.out]; omega)
      rw [← HLN.out] at hlj
      have e8 : f i = .slice (some ⟨b7, 0, none⟩) ((s.turnH i q m j).W i).length c7' := by rw [e7, hlj, HLN.out]
      obtain ⟨hy, hfy⟩ := (e8 ▸ HD.out.rows i HI.out).cell1 j (by rw [hlj]; exact hj) q hq8
      rw [s.turnH_at i q m j (by rw [← HLN.out]; exact hj)] at hy
      have HPW := Aside0.mk (fun v => (HD.out.chg (w' := wr.drew) (G := fun _ => False) ⟨rfl, rfl, rfl, Nat.le_refl _, fun _ _ _ => rfl⟩ (fun _ _ => id)).putW1 i HI.out e8 j (by rw [hlj]; exact hj) q hq8 v)
      obtain ⟨y, hy'⟩ : ∃ y, y = ((s.W i).getD j []).getD q 0 := ⟨_, rfl⟩
      rw [← hy'] at hy
      have HY := Aside0.mk hy'
      have hg1 : wr.cell? ⟨g, 1, none⟩ = some (.map (some mb)) := blk_cell HD.out.hd 1
      have hlk : (Instr.lookup 87 (.map (some mb)) (.int .i64 (i : Int)) false).run Try.prog wr.drew = .ok (.slice (some ⟨b7, 0, none⟩) ln c7') wr.drew := by
        have h_ := (HD.out.chg (w' := wr.drew) (G := fun _ => False) ⟨rfl, rfl, rfl, Nat.le_refl _, fun _ _ _ => rfl⟩ (fun _ _ => id)).look i HI.out
        rw [e7, ← HLN.out] at h_
        exact h_
      have HE8 := Aside0.mk (show (f i).ownBlock = some b7 from by rw [e7]; rfl)
      clear hj e7 e8 hlj hy'
      go_upto_region 10 with (fail)
      have HB5 := Aside0.mk (below_drew1 (Below.refl wr.heap.size wr))
      have hf5 : wr.drew.frozen? ⟨b7, j * 512 + q, none⟩ = false := by simpa using hfy
      have hqw : wrap64 (q : Int) = (q : Int) := by unfold wrap64; omega
      refine start_ (n := 17) (S := fun W => W.cell? ⟨g, 1, none⟩ = some (.map (some mb)) ∧ (Instr.lookup 87 (.map (some mb)) (.int .i64 (i : Int)) false).run Try.prog W = .ok (.slice (some ⟨b7, 0, none⟩) ln c7') W ∧ W.cell? ⟨b7, j * 512 + q, none⟩ = some (.int .u8 y)) (ds := [16]) #[false, false, false, false, false, false, false, false, false, false, false, false, false, false, false, false, false] (by kernel_rfl) rfl rfl (⟨hg1, hlk, hy⟩) (fun hHeld => ?_); refine with_tabW turn10_tab turn10_bits (fun HT_ HW_ => ?_)
      generalize wr.drew = w5 at hHeld HB5 hf5 HPW ⊢
      refine pure_ (i := 0) (N := (some 47)) (v := ?_) (a' := ?_) #[true, false, false, false, false, false, false, false, false, false, false, false, false, false, false, false, false] rfl rfl (any_of HT_.out (by kernel_rfl)) (fun _ _ _ h => h) (Or.inl ⟨by rfl, ?_⟩) ?_ ?_
      rotate_left
      · intro w'
        go_simp
        with_reducible rfl
      rotate_left
      · simp only [Act.put, List.setIfInBounds_toArray, List.set_cons_zero, List.set_cons_succ, i64_w, i32_w]
        rfl
      refine pure_ (i := 1) (N := (some 48)) (v := ?_) (a' := ?_) #[true, true, false, false, false, false, false, false, false, false, false, false, false, false, false, false, false] rfl rfl (any_of HT_.out (by kernel_rfl)) (fun _ _ _ h => h) (Or.inl ⟨by rfl, ?_⟩) ?_ ?_
      rotate_left
      · intro w'
        go_simp
        with_reducible rfl
      rotate_left
      · simp only [Act.put, List.setIfInBounds_toArray, List.set_cons_zero, List.set_cons_succ, i64_w, i32_w]
        rfl
      refine pure_ (i := 2) (N := (some 49)) (v := ?_) (a' := ?_) #[true, true, true, false, false, false, false, false, false, false, false, false, false, false, false, false, false] rfl rfl (any_of HT_.out (by kernel_rfl)) (fun _ _ _ h => h) (Or.inl ⟨by rfl, ?_⟩) ?_ ?_
      rotate_left
      · intro w'
        go_simp
        with_reducible rfl
      rotate_left
      · simp only [Act.put, List.setIfInBounds_toArray, List.set_cons_zero, List.set_cons_succ, i64_w, i32_w]
        rfl
      refine take_ (i := 3) (N := (some 50)) (v := ?_) (a' := ?_) #[true, true, true, true, false, false, false, false, false, false, false, false, false, false, false, false, false] rfl rfl (take_ofW HT_.out HW_.out (by kernel_rfl)) (fun _ _ _ h => h) (Or.inl ⟨by rfl, ?_⟩) hHeld ?_ ?_
      rotate_left
      · intro w' s0
        (try dsimp only at s0)
        go_simp
        with_reducible rfl
      rotate_left
      · simp only [Act.put, List.setIfInBounds_toArray, List.set_cons_zero, List.set_cons_succ, i64_w, i32_w]
        rfl
      refine pure_ (i := 4) (N := (some 51)) (v := ?_) (a' := ?_) #[true, true, true, true, true, false, false, false, false, false, false, false, false, false, false, false, false] rfl rfl (any_of HT_.out (by kernel_rfl)) (fun _ _ _ h => h) (Or.inl ⟨by rfl, ?_⟩) ?_ ?_
      rotate_left
      · intro w'
        go_simp
        with_reducible rfl
      rotate_left
      · simp only [Act.put, List.setIfInBounds_toArray, List.set_cons_zero, List.set_cons_succ, i64_w, i32_w]
        rfl
      refine take_ (i := 5) (N := (some 52)) (v := ?_) (a' := ?_) #[true, true, true, true, true, true, false, false, false, false, false, false, false, false, false, false, false] rfl rfl (take_ofW HT_.out HW_.out (by kernel_rfl)) (fun _ _ _ h => h) (Or.inl ⟨by rfl, ?_⟩) hHeld ?_ ?_
      rotate_left
      · intro w' s0
        (try dsimp only at s0)
        go_simp
        with_reducible rfl
      rotate_left
      · simp only [Act.put, List.setIfInBounds_toArray, List.set_cons_zero, List.set_cons_succ, i64_w, i32_w]
        rfl
      refine pure_ (i := 6) (N := (some 53)) (v := ?_) (a' := ?_) #[true, true, true, true, true, true, true, false, false, false, false, false, false, false, false, false, false] rfl rfl (any_of HT_.out (by kernel_rfl)) (fun _ _ _ h => h) (Or.inl ⟨by rfl, ?_⟩) ?_ ?_
      rotate_left
      · intro w'
        go_simp
        with_reducible rfl
      rotate_left
      · simp only [Act.put, List.setIfInBounds_toArray, List.set_cons_zero, List.set_cons_succ, i64_w, i32_w]
        rfl
      refine pure_ (i := 7) (N := (some 54)) (v := ?_) (a' := ?_) #[true, true, true, true, true, true, true, true, false, false, false, false, false, false, false, false, false] rfl rfl (any_of HT_.out (by kernel_rfl)) (fun _ _ _ h => h) (Or.inl ⟨by rfl, ?_⟩) ?_ ?_
      rotate_left
      · intro w'
        go_simp
        with_reducible rfl
      rotate_left
      · simp only [Act.put, List.setIfInBounds_toArray, List.set_cons_zero, List.set_cons_succ, i64_w, i32_w]
        rfl
      refine pure_ (i := 8) (N := (some 55)) (v := ?_) (a' := ?_) #[true, true, true, true, true, true, true, true, true, false, false, false, false, false, false, false, false] rfl rfl (any_of HT_.out (by kernel_rfl)) (fun _ _ _ h => h) (Or.inl ⟨by rfl, ?_⟩) ?_ ?_
      rotate_left
      · intro w'
        go_simp
        with_reducible rfl
      rotate_left
      · simp only [Act.put, List.setIfInBounds_toArray, List.set_cons_zero, List.set_cons_succ, i64_w, i32_w]
        rfl
      refine pure_ (i := 9) (N := (some 56)) (v := ?_) (a' := ?_) #[true, true, true, true, true, true, true, true, true, true, false, false, false, false, false, false, false] rfl rfl (any_of HT_.out (by kernel_rfl)) (fun _ _ _ h => h) (Or.inl ⟨by rfl, ?_⟩) ?_ ?_
      rotate_left
      · intro w'
        go_simp
        with_reducible rfl
      rotate_left
      · simp only [Act.put, List.setIfInBounds_toArray, List.set_cons_zero, List.set_cons_succ, i64_w, i32_w]
        rfl
      refine pure_ (i := 10) (N := (some 57)) (v := ?_) (a' := ?_) #[true, true, true, true, true, true, true, true, true, true, true, false, false, false, false, false, false] rfl rfl (any_of HT_.out (by kernel_rfl)) (fun _ _ _ h => h) (Or.inl ⟨by rfl, ?_⟩) ?_ ?_
      rotate_left
      · intro w'
        go_simp
        with_reducible rfl
      rotate_left
      · simp only [Act.put, List.setIfInBounds_toArray, List.set_cons_zero, List.set_cons_succ, i64_w, i32_w]
        rfl
      refine take_ (i := 11) (N := (some 58)) (v := ?_) (a' := ?_) #[true, true, true, true, true, true, true, true, true, true, true, true, false, false, false, false, false] rfl rfl (take_ofW HT_.out HW_.out (by kernel_rfl)) (fun _ _ _ h => h) (Or.inl ⟨by rfl, ?_⟩) hHeld ?_ ?_
      rotate_left
      · intro w' s0
        (try dsimp only at s0)
        go_simp
        with_reducible rfl
      rotate_left
      · simp only [Act.put, List.setIfInBounds_toArray, List.set_cons_zero, List.set_cons_succ, i64_w, i32_w]
        rfl
      refine pure_ (i := 12) (N := (some 59)) (v := ?_) (a' := ?_) #[true, true, true, true, true, true, true, true, true, true, true, true, true, false, false, false, false] rfl rfl (any_of HT_.out (by kernel_rfl)) (fun _ _ _ h => h) (Or.inl ⟨by rfl, ?_⟩) ?_ ?_
      rotate_left
      · intro w'
        go_simp
        with_reducible rfl
      rotate_left
      · simp only [Act.put, List.setIfInBounds_toArray, List.set_cons_zero, List.set_cons_succ, i64_w, i32_w]
        rfl
      refine pure_ (i := 13) (N := (some 60)) (v := ?_) (a' := ?_) #[true, true, true, true, true, true, true, true, true, true, true, true, true, true, false, false, false] rfl rfl (any_of HT_.out (by kernel_rfl)) (fun _ _ _ h => h) (Or.inl ⟨by rfl, ?_⟩) ?_ ?_
      rotate_left
      · intro w'
        go_simp
        with_reducible rfl
      rotate_left
      · simp only [Act.put, List.setIfInBounds_toArray, List.set_cons_zero, List.set_cons_succ, i64_w, i32_w]
        rfl
      refine pure_ (i := 14) (N := (some 61)) (v := ?_) (a' := ?_) #[true, true, true, true, true, true, true, true, true, true, true, true, true, true, true, false, false] rfl rfl (any_of HT_.out (by kernel_rfl)) (fun _ _ _ h => h) (Or.inl ⟨by rfl, ?_⟩) ?_ ?_
      rotate_left
      · intro w'
        go_simp
        with_reducible rfl
      rotate_left
      · simp only [Act.put, List.setIfInBounds_toArray, List.set_cons_zero, List.set_cons_succ, i64_w, i32_w]
        rfl
      refine pure_ (i := 15) (N := (some 62)) (v := ?_) (a' := ?_) #[true, true, true, true, true, true, true, true, true, true, true, true, true, true, true, true, false] rfl rfl (any_of HT_.out (by kernel_rfl)) (fun _ _ _ h => h) (Or.inl ⟨by rfl, ?_⟩) ?_ ?_
      rotate_left
      · intro w'
        go_simp
        with_reducible rfl
      rotate_left
      · simp only [Act.put, List.setIfInBounds_toArray, List.set_cons_zero, List.set_cons_succ, i64_w, i32_w]
        rfl
      refine last_ (i := 16) (N := none) #[true, true, true, true, true, true, true, true, true, true, true, true, true, true, true, true, true] rfl rfl (one_of HT_.out (by kernel_rfl)) (by decide) (fun K hK => ?_)
      refine skip_ (w1 := ?_) (by rfl) rfl ?_ ?_
      rotate_left
      · go_simp
        first | rfl | (constructor <;> rfl)
      refine hK.out _ _ ?_
      clear hK K
      refine done_ (done_of HT_.out (by kernel_rfl)) ?_
      have HN := Aside0.mk (show DkIn (w5.setCell ⟨b7, j * 512 + q, none⟩ (.int .u8 (bits .xor .u8 y m))) base g (s.turnH i q m (j + 1)) lb cp mb f k D ∧ w5.grownBy (w5.setCell ⟨b7, j * 512 + q, none⟩ (.int .u8 (bits .xor .u8 y m))) (some b7) from by
        have h_ := HPW.out (bits .xor .u8 (((s.W i).getD j []).getD q 0) m)
        rw [s.turnH_succ i q m j (by rw [← HLN.out]; exact HJ1.out)] at h_
        rw [HY.out]
        exact h_)
      have HCn := Aside0.mk ((HC.out.trans (Chg.of_below (F := fun _ => False) HB5.out) (fun _ h => h.elim)).trans (Chg.of_grown (F := fun x => x = b7) HN.out.2 (fun k hk => (Option.some.inj hk).symm)) (fun x hx => .inl (.inr (by rw [hx]; exact HE8.out))))
      clear hHeld hf5 HPW hqw HB5 hg1 hlk hy hfy
      generalize w5.setCell ⟨b7, j * 512 + q, none⟩ (.int .u8 (bits .xor .u8 y m)) = w6 at HN HCn ⊢
      go_wp2
      go_roundg (gk - 1)
      case measure => have := HJ.out; have := HJ1.out; omega
      case rel => exact ⟨j + 1, (by have hi_ := HJ1.out; have hl_ := hW0; first | rfl | (simp; done) | (rw [show wrap64 ((j : Int) + 1) = (j : Int) + 1 from by unfold wrap64; omega]; rfl)), ⟨by have := HJ.out; have := HJ1.out; omega⟩, ⟨HN.out.1⟩, HCn⟩
    · have hjb : decide (j < ln) = false := decide_eq_false hj
      obtain rfl : ln = j := by have := HJ.out; omega
      clear hj
      go_wp2
      go_ret
      refine ⟨rfl, ?_, HC.out⟩
      have h_ := HD.out
      rw [HLN.out, s.turnH_all i q m, HQ.out, HM.out, HR.out] at h_
      exact h_
end Go.Proofs.Ytddnhcnkjcdfgaa.M
namespace Go.Proofs.Ytddnhcnkjcdfgaa.M
open Go.RowKit Go.Maps Go.Proofs.YtddnhcnkjcdfgaaW.PrintWords Go.Proofs.YtddnhcnkjcdfgaaW.PrintLast Go.Proofs.YtddnhcnkjcdfgaaW.PrintMore
set_option linter.unusedVariables false
set_option linter.unusedSimpArgs false
set_option maxHeartbeats 1000000 in
set_option maxRecDepth 100000 in
theorem acts_calls (g : Nat) (w : World) (a b : Value) (r wr fl : Int) (h : w.heap[g]? = some (.cells #[a, b, .int .i64 r, .int .i64 wr, .int .i64 fl] 89 (0, 0))) :
    Calls Try.prog 35 #[.pointer (some ⟨g, 0, none⟩)] w fun e w' => e = .returned (.agg #[.int .i64 r, .int .i64 wr, .int .i64 fl]) ∧ Below w.heap.size w w' := by
  have h2 : w.cell? ⟨g, 2, none⟩ = some (.int .i64 r) := blk_cell h 2
  have h3 : w.cell? ⟨g, 3, none⟩ = some (.int .i64 wr) := blk_cell h 3
  have h4 : w.cell? ⟨g, 4, none⟩ = some (.int .i64 fl) := blk_cell h 4
  have hlt : g < w.heap.size := blk_lt h
  clear h
  go_enter Try.func35, Try.ntmps35
  go_wp2
  exact bodyPost_ret (v := .agg #[.int .i64 r, .int .i64 wr, .int .i64 fl]) (by simp [results, Try.results35, go_sem]) rfl ⟨rfl, (Below.refl _ _).alloc (Nat.le_refl _) _⟩
section
variable {w : World} {base g lb cp mb k : Nat} {s : DS} {f : Nat → Value} {D : DataW Value}
set_option maxHeartbeats 1000000 in
set_option maxRecDepth 100000 in
theorem read_none (h : DkIn w base g s lb cp mb f k D) (n : Int) (hn : ¬ (0 ≤ n ∧ n < (s.n : Int))) :
    Calls Try.prog 25 #[.pointer (some ⟨g, 0, none⟩), .int .i64 n] w fun e w' => e = .returned (.tuple #[.slice none 0 0, .int .i64 31]) ∧ w' = w := by
  have Hout := Aside0.mk (show Calls Try.prog 41 #[.pointer (some ⟨g, 0, none⟩), .int .i64 n] w fun e w' => e = .returned (.bool true) ∧ w' = w from by
    have h_ := outside_calls g n s.n (some ⟨lb, 0, none⟩) cp w (blk_cell h.hd 0)
    rw [show (!decide (0 ≤ n ∧ n < (s.n : Int))) = true by rw [decide_eq_false hn]; rfl] at h_
    exact h_)
  clear h hn
  go_enter Try.func25, Try.ntmps25
  go_wp2_with (go_at_call 41; (with_reducible refine Hout.out.mono ?_); rintro e w1 ⟨rfl, hw_⟩; subst hw_)
  go_ret2
  exact ⟨rfl, rfl⟩
set_option maxHeartbeats 1000000 in
set_option maxRecDepth 100000 in
theorem write_none (h : DkIn w base g s lb cp mb f k D) (n : Int) (hn : ¬ (0 ≤ n ∧ n < (s.n : Int))) (A : Option Addr) (l c : Nat) :
    Calls Try.prog 16 #[.pointer (some ⟨g, 0, none⟩), .int .i64 n, .slice A l c] w fun e w' => e = .returned (.int .i64 31) ∧ w' = w := by
  have Hout := Aside0.mk (show Calls Try.prog 41 #[.pointer (some ⟨g, 0, none⟩), .int .i64 n] w fun e w' => e = .returned (.bool true) ∧ w' = w from by
    have h_ := outside_calls g n s.n (some ⟨lb, 0, none⟩) cp w (blk_cell h.hd 0)
    rw [show (!decide (0 ≤ n ∧ n < (s.n : Int))) = true by rw [decide_eq_false hn]; rfl] at h_
    exact h_)
  clear h hn
  go_enter Try.func16, Try.ntmps16
  go_wp2_with (go_at_call 41; (with_reducible refine Hout.out.mono ?_); rintro e w1 ⟨rfl, hw_⟩; subst hw_)
  go_ret
  exact ⟨rfl, rfl⟩
set_option maxHeartbeats 1000000 in
set_option maxRecDepth 100000 in
theorem write_size (h : DkIn w base g s lb cp mb f k D) (n : Int) (hn : 0 ≤ n ∧ n < (s.n : Int)) (A : Option Addr) (l c : Nat) (hl : l ≠ 512) (hm : l ≤ 9223372036854775807) :
    Calls Try.prog 16 #[.pointer (some ⟨g, 0, none⟩), .int .i64 n, .slice A l c] w fun e w' => e = .returned (.int .i64 32) ∧ w' = w := by
  have Hout := Aside0.mk (show Calls Try.prog 41 #[.pointer (some ⟨g, 0, none⟩), .int .i64 n] w fun e w' => e = .returned (.bool false) ∧ w' = w from by
    have h_ := outside_calls g n s.n (some ⟨lb, 0, none⟩) cp w (blk_cell h.hd 0)
    rw [show (!decide (0 ≤ n ∧ n < (s.n : Int))) = false by rw [decide_eq_true hn]; rfl] at h_
    exact h_)
  have hl1 : ((l : Int) != 512) = true := bne_iff_ne.mpr (by omega)
  clear h hn hl
  go_enter Try.func16, Try.ntmps16
  go_wp2_with (go_at_call 41; (with_reducible refine Hout.out.mono ?_); rintro e w1 ⟨rfl, hw_⟩; subst hw_)
  go_ret
  exact ⟨rfl, rfl⟩
set_option maxHeartbeats 1000000 in
set_option maxRecDepth 100000 in
theorem turn_none (h : DkIn w base g s lb cp mb f k D) (n b : Int) (hn : ¬ (0 ≤ n ∧ n < (s.n : Int))) :
    Calls Try.prog 33 #[.pointer (some ⟨g, 0, none⟩), .int .i64 n, .int .i64 b] w fun e w' => e = .returned (.int .i64 31) ∧ w' = w := by
  have Hout := Aside0.mk (show Calls Try.prog 41 #[.pointer (some ⟨g, 0, none⟩), .int .i64 n] w fun e w' => e = .returned (.bool true) ∧ w' = w from by
    have h_ := outside_calls g n s.n (some ⟨lb, 0, none⟩) cp w (blk_cell h.hd 0)
    rw [show (!decide (0 ≤ n ∧ n < (s.n : Int))) = true by rw [decide_eq_false hn]; rfl] at h_
    exact h_)
  clear h hn
  go_enter Try.func33, Try.ntmps33
  go_wp2_with (go_at_call 41; (with_reducible refine Hout.out.mono ?_); rintro e w1 ⟨rfl, hw_⟩; subst hw_)
  go_ret
  exact ⟨rfl, rfl⟩
set_option maxHeartbeats 1000000 in
set_option maxRecDepth 100000 in
theorem turn_bit (h : DkIn w base g s lb cp mb f k D) (n b : Int) (hn : 0 ≤ n ∧ n < (s.n : Int)) (hb : b < 0 ∨ 4096 ≤ b) :
    Calls Try.prog 33 #[.pointer (some ⟨g, 0, none⟩), .int .i64 n, .int .i64 b] w fun e w' => e = .returned (.int .i64 1) ∧ w' = w := by
  have Hout := Aside0.mk (show Calls Try.prog 41 #[.pointer (some ⟨g, 0, none⟩), .int .i64 n] w fun e w' => e = .returned (.bool false) ∧ w' = w from by
    have h_ := outside_calls g n s.n (some ⟨lb, 0, none⟩) cp w (blk_cell h.hd 0)
    rw [show (!decide (0 ≤ n ∧ n < (s.n : Int))) = false by rw [decide_eq_true hn]; rfl] at h_
    exact h_)
  clear h hn
  rcases hb with hb | hb
  · have hb1 : decide (b < 0) = true := decide_eq_true hb
    go_enter Try.func33, Try.ntmps33
    go_wp2_with (go_at_call 41; (with_reducible refine Hout.out.mono ?_); rintro e w1 ⟨rfl, hw_⟩; subst hw_)
    all_goals (go_ret; exact ⟨rfl, rfl⟩)
  · have hb1 : decide (b < 0) = false := decide_eq_false (by omega)
    have hb2 : decide (4096 ≤ b) = true := decide_eq_true hb
    go_enter Try.func33, Try.ntmps33
    go_wp2_with (go_at_call 41; (with_reducible refine Hout.out.mono ?_); rintro e w1 ⟨rfl, hw_⟩; subst hw_)
    all_goals (go_ret; exact ⟨rfl, rfl⟩)
end
section
variable {w0 w : World} {L : List Th} {g : Nat} {s : DS}
theorem Sep.turn (h : Sep w0 w (dkT g s :: L)) (i bit : Nat) (hi : i < s.n) (hb : bit < 4096) :
    Calls Try.prog 33 #[.pointer (some ⟨g, 0, none⟩), .int .i64 (i : Int), .int .i64 (bit : Int)] w fun e w' => e = .returned (.int .i64 0) ∧ Sep w0 w' (dkT g (s.turn i bit) :: L) := by
  obtain ⟨F, ⟨base, lb, cp, mb, f, k, D, h1, hF⟩, h2, h3⟩ := h.open1
  refine (turn_in g i bit w base lb cp mb k f D s h1 hi hb).mono ?_
  rintro e w' ⟨he, hd, hc⟩
  exact ⟨he, h3 (dkT g (s.turn i bit)) w' F ⟨base, lb, cp, mb, f, k, D, hd, hF⟩ (fun b hb => .inl hb) (hc.mono (fun x hx => (hF x).2 (by rcases hx with rfl | hx; exact .inr (.inl rfl); exact .inr (.inr (.inr ⟨i, hi, hx⟩)))))⟩
theorem Sep.acts (h : Sep w0 w (dkT g s :: L)) :
    Calls Try.prog 35 #[.pointer (some ⟨g, 0, none⟩)] w fun e w' => e = .returned (.agg #[.int .i64 s.r, .int .i64 s.wr, .int .i64 s.fl]) ∧ Sep w0 w' (dkT g s :: L) := by
  obtain ⟨F, ⟨base, lb, cp, mb, f, k, D, h1, hF⟩, h2⟩ := h.get
  refine (acts_calls g w _ _ _ _ _ h1.hd).mono ?_
  rintro e w' ⟨he, hb⟩
  exact ⟨he, h.step hb⟩
theorem Sep.sectors (h : Sep w0 w (dkT g s :: L)) :
    Calls Try.prog 29 #[.pointer (some ⟨g, 0, none⟩)] w fun e w' => e = .returned (.int .i64 (s.n : Int)) ∧ w' = w := by
  obtain ⟨F, ⟨base, h1⟩, h2⟩ := h.get
  exact sectors_at g w base F s h1
theorem Sep.read_none (h : Sep w0 w (dkT g s :: L)) (n : Int) (hn : ¬ (0 ≤ n ∧ n < (s.n : Int))) :
    Calls Try.prog 25 #[.pointer (some ⟨g, 0, none⟩), .int .i64 n] w fun e w' => e = .returned (.tuple #[.slice none 0 0, .int .i64 31]) ∧ w' = w := by
  obtain ⟨F, ⟨base, lb, cp, mb, f, k, D, h1, hF⟩, h2⟩ := h.get
  exact M.read_none h1 n hn
theorem Sep.write_none (h : Sep w0 w (dkT g s :: L)) (n : Int) (hn : ¬ (0 ≤ n ∧ n < (s.n : Int))) (A : Option Addr) (l c : Nat) :
    Calls Try.prog 16 #[.pointer (some ⟨g, 0, none⟩), .int .i64 n, .slice A l c] w fun e w' => e = .returned (.int .i64 31) ∧ w' = w := by
  obtain ⟨F, ⟨base, lb, cp, mb, f, k, D, h1, hF⟩, h2⟩ := h.get
  exact M.write_none h1 n hn A l c
theorem Sep.write_size (h : Sep w0 w (dkT g s :: L)) (n : Int) (hn : 0 ≤ n ∧ n < (s.n : Int)) (A : Option Addr) (l c : Nat) (hl : l ≠ 512) (hm : l ≤ 9223372036854775807) :
    Calls Try.prog 16 #[.pointer (some ⟨g, 0, none⟩), .int .i64 n, .slice A l c] w fun e w' => e = .returned (.int .i64 32) ∧ w' = w := by
  obtain ⟨F, ⟨base, lb, cp, mb, f, k, D, h1, hF⟩, h2⟩ := h.get
  exact M.write_size h1 n hn A l c hl hm
theorem Sep.turn_none (h : Sep w0 w (dkT g s :: L)) (n b : Int) (hn : ¬ (0 ≤ n ∧ n < (s.n : Int))) :
    Calls Try.prog 33 #[.pointer (some ⟨g, 0, none⟩), .int .i64 n, .int .i64 b] w fun e w' => e = .returned (.int .i64 31) ∧ w' = w := by
  obtain ⟨F, ⟨base, lb, cp, mb, f, k, D, h1, hF⟩, h2⟩ := h.get
  exact M.turn_none h1 n b hn
theorem Sep.turn_bit (h : Sep w0 w (dkT g s :: L)) (n b : Int) (hn : 0 ≤ n ∧ n < (s.n : Int)) (hb : b < 0 ∨ 4096 ≤ b) :
    Calls Try.prog 33 #[.pointer (some ⟨g, 0, none⟩), .int .i64 n, .int .i64 b] w fun e w' => e = .returned (.int .i64 1) ∧ w' = w := by
  obtain ⟨F, ⟨base, lb, cp, mb, f, k, D, h1, hF⟩, h2⟩ := h.get
  exact M.turn_bit h1 n b hn hb
end
end Go.Proofs.Ytddnhcnkjcdfgaa.M
