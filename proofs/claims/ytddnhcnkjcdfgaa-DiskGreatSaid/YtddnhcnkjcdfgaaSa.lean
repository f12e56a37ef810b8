-- Things that lie side by side in memory
import Derived.Test.YtddnhcnkjcdfgaaDg
namespace Go.Proofs.Ytddnhcnkjcdfgaa.M
open Go.RowKit Go.Maps Go.Proofs.YtddnhcnkjcdfgaaW.PrintWords Go.Proofs.YtddnhcnkjcdfgaaW.PrintLast Go.Proofs.YtddnhcnkjcdfgaaW.PrintMore
set_option linter.unusedVariables false
set_option linter.unusedSimpArgs false
/-- A thing in memory: what it says of a world, and its blocks. -/
structure Th where
  P : World → (Nat → Prop) → Prop
  foot : ∀ {w : World} {F : Nat → Prop}, P w F → ∀ b, F b → b < w.heap.size
  step : ∀ {w w' : World} {F : Nat → Prop}, P w F → (∀ b, F b → w'.heap[b]? = w.heap[b]?) → P w' F
/-- They lie in blocks of their own, all within U. -/
def Hold (w : World) : List Th → (Nat → Prop) → Prop
  | [], _ => True
  | t :: L, U => ∃ F, t.P w F ∧ (∀ b, F b → U b) ∧ Hold w L (fun b => U b ∧ ¬ F b)
theorem Hold.mono {w : World} : ∀ {L : List Th} {U U' : Nat → Prop}, Hold w L U → (∀ b, U b → b < w.heap.size → U' b) → Hold w L U'
  | [], _, _, _, _ => trivial
  | t :: L, U, U', ⟨F, h1, h2, h3⟩, h => ⟨F, h1, fun b hb => h b (h2 b hb) (t.foot h1 b hb), Hold.mono h3 (fun b hb hlt => ⟨h b hb.1 hlt, hb.2⟩)⟩
theorem Hold.move {w w' : World} : ∀ {L : List Th} {U : Nat → Prop}, Hold w L U → (∀ b, U b → b < w.heap.size → w'.heap[b]? = w.heap[b]?) → Hold w' L U
  | [], _, _, _ => trivial
  | t :: L, U, ⟨F, h1, h2, h3⟩, h => ⟨F, t.step h1 (fun b hb => h b (h2 b hb) (t.foot h1 b hb)), h2, Hold.move h3 (fun b hb hlt => h b hb.1 hlt)⟩
theorem Hold.split {w : World} : ∀ {M L : List Th} {U : Nat → Prop}, Hold w (M ++ L) U → ∃ U1 : Nat → Prop, (∀ b, U1 b → U b) ∧ Hold w M U1 ∧ Hold w L (fun b => U b ∧ ¬ U1 b)
  | [], L, U, h => ⟨fun _ => False, fun _ h => h.elim, trivial, Hold.mono h (fun b hb _ => ⟨hb, fun h => h⟩)⟩
  | t :: M, L, U, ⟨F, h1, h2, h3⟩ => by
    obtain ⟨U1, e1, e2, e3⟩ := Hold.split (M := M) h3
    refine ⟨fun b => F b ∨ U1 b, fun b hb => hb.elim (h2 b) (fun h => (e1 b h).1), ⟨F, h1, fun b hb => .inl hb, Hold.mono e2 (fun b hb _ => ⟨.inr hb, (e1 b hb).2⟩)⟩, Hold.mono e3 (fun b hb _ => ⟨hb.1.1, fun h => h.elim hb.1.2 hb.2⟩)⟩
theorem Hold.append {w : World} : ∀ {M L : List Th} {U1 U2 U : Nat → Prop}, Hold w M U1 → Hold w L U2 → (∀ b, U1 b → U b ∧ ¬ U2 b) → (∀ b, U2 b → U b) → Hold w (M ++ L) U
  | [], L, U1, U2, U, _, h2, _, h4 => Hold.mono h2 (fun b hb _ => h4 b hb)
  | t :: M, L, U1, U2, U, ⟨F, h1, h2, h3⟩, h5, h6, h7 => ⟨F, h1, fun b hb => (h6 b (h2 b hb)).1, Hold.append (M := M) h3 h5 (fun b hb => ⟨⟨(h6 b hb.1).1, hb.2⟩, (h6 b hb.1).2⟩) (fun b hb => ⟨h7 b hb, fun hF => (h6 b (h2 b hF)).2 hb⟩)⟩
theorem Hold.perm {w : World} {L L' : List Th} (hp : L.Perm L') : ∀ {U : Nat → Prop}, Hold w L U → Hold w L' U := by
  induction hp with
  | nil => exact fun h => h
  | cons t _ ih => rintro U ⟨F, h1, h2, h3⟩; exact ⟨F, h1, h2, ih h3⟩
  | swap a b L =>
    rintro U ⟨F, h1, h2, G, g1, g2, h3⟩
    exact ⟨G, g1, fun x hx => (g2 x hx).1, F, h1, fun x hx => ⟨h2 x hx, fun hG => (g2 x hG).2 hx⟩, Hold.mono h3 (fun x hx _ => ⟨⟨hx.1.1, hx.2⟩, hx.1.2⟩)⟩
  | trans _ _ ih1 ih2 => exact fun h => ih2 (ih1 h)
/-- What lay at w0 lies there still; L: what has been made since. -/
structure Sep (w0 w : World) (L : List Th) : Prop where
  below : Below w0.heap.size w0 w
  hold : Hold w L (fun b => w0.heap.size ≤ b)
section
variable {w0 w w' : World} {L M N : List Th} {t t' : Th}
theorem Sep.refl (w : World) : Sep w w [] := ⟨Below.refl _ _, trivial⟩
theorem Sep.step (h : Sep w0 w L) (hb : Below w.heap.size w w') : Sep w0 w' L := ⟨below_step h.below hb, h.hold.move (fun b _ hlt => hb.block b hlt)⟩
theorem Sep.perm (h : Sep w0 w L) (hp : L.Perm M) : Sep w0 w M := ⟨h.below, h.hold.perm hp⟩
theorem Sep.up1 {a b : Th} (h : Sep w0 w (a :: b :: L)) : Sep w0 w (b :: a :: L) := h.perm (List.Perm.swap b a L)
theorem Sep.up2 {a b c : Th} (h : Sep w0 w (a :: b :: c :: L)) : Sep w0 w (c :: a :: b :: L) := h.perm (List.perm_middle (l₁ := [a, b]))
theorem Sep.up3 {a b c d : Th} (h : Sep w0 w (a :: b :: c :: d :: L)) : Sep w0 w (d :: a :: b :: c :: L) := h.perm (List.perm_middle (l₁ := [a, b, c]))
theorem Sep.up4 {a b c d e : Th} (h : Sep w0 w (a :: b :: c :: d :: e :: L)) : Sep w0 w (e :: a :: b :: c :: d :: L) := h.perm (List.perm_middle (l₁ := [a, b, c, d]))
theorem Sep.down2 {a b c : Th} (h : Sep w0 w (c :: a :: b :: L)) : Sep w0 w (a :: b :: c :: L) := h.perm (List.perm_middle (l₁ := [a, b])).symm
theorem Sep.down3 {a b c d : Th} (h : Sep w0 w (d :: a :: b :: c :: L)) : Sep w0 w (a :: b :: c :: d :: L) := h.perm (List.perm_middle (l₁ := [a, b, c])).symm
theorem Sep.drop (h : Sep w0 w (t :: L)) : Sep w0 w L := by
  obtain ⟨hb, F, h1, h2, h3⟩ := h
  exact ⟨hb, h3.mono (fun b hb _ => hb.1)⟩
/-- The things M are taken, and others put back. -/
theorem Sep.split (h : Sep w0 w (M ++ L)) : ∃ U : Nat → Prop, Hold w M U ∧ (∀ b, U b → w0.heap.size ≤ b) ∧ ∀ (N : List Th) (w' : World), Hold w' N (fun b => U b ∨ w.heap.size ≤ b) → Chg U w w' → Sep w0 w' (N ++ L) := by
  obtain ⟨hb, h1⟩ := h
  obtain ⟨U1, e1, e2, e3⟩ := h1.split
  have hs := below_size hb
  refine ⟨U1, e2, e1, fun N w' hN hc => ⟨Chg.below hb hc hs e1, ?_⟩⟩
  have h4 : Hold w L (fun b => (w0.heap.size ≤ b ∧ ¬ U1 b) ∧ b < w.heap.size) := e3.mono (fun b hb hlt => ⟨hb, hlt⟩)
  exact hN.append (h4.move (fun b hU hlt => hc.block b hlt hU.1.2)) (fun b hb => ⟨hb.elim (e1 b) (Nat.le_trans hs), fun hx => hb.elim hx.1.2 (fun h => Nat.not_lt.2 h hx.2)⟩) (fun b hb => hb.1.1)
theorem Sep.open_ (h : Sep w0 w (t :: L)) : ∃ F, t.P w F ∧ (∀ b, F b → w0.heap.size ≤ b) ∧ ∀ (N : List Th) (w' : World), Hold w' N (fun b => F b ∨ w.heap.size ≤ b) → Chg F w w' → Sep w0 w' (N ++ L) := by
  obtain ⟨U, ⟨F, h1, h2, _⟩, h3, h4⟩ := Sep.split (M := [t]) h
  refine ⟨F, h1, fun b hb => h3 b (h2 b hb), fun N w' hN hc => h4 N w' (hN.mono (fun b hb _ => hb.imp (h2 b) id)) (hc.mono h2)⟩
/-- One thing is changed. -/
theorem Sep.open1 (h : Sep w0 w (t :: L)) : ∃ F, t.P w F ∧ (∀ b, F b → w0.heap.size ≤ b) ∧ ∀ (t' : Th) (w' : World) (F' : Nat → Prop), t'.P w' F' → (∀ b, F' b → F b ∨ w.heap.size ≤ b) → Chg F w w' → Sep w0 w' (t' :: L) := by
  obtain ⟨F, h1, h2, h3⟩ := h.open_
  exact ⟨F, h1, h2, fun t' w' F' h4 h5 hc => h3 [t'] w' ⟨F', h4, h5, trivial⟩ hc⟩
/-- A thing is made. -/
theorem Sep.push (h : Sep w0 w L) (hb : Below w.heap.size w w') {F : Nat → Prop} (ht : t.P w' F) (hF : ∀ b, F b → w.heap.size ≤ b) : Sep w0 w' (t :: L) := by
  obtain ⟨U, _, _, h3⟩ := Sep.split (M := []) h
  exact h3 [t] w' ⟨F, ht, fun b hb => .inr (hF b hb), trivial⟩ ((Chg.of_below (F := fun _ => False) hb).mono (fun _ h => h.elim))
theorem Sep.get (h : Sep w0 w (t :: L)) : ∃ F, t.P w F ∧ ∀ b, F b → w0.heap.size ≤ b := by
  obtain ⟨F, h1, h2, _⟩ := h.open_
  exact ⟨F, h1, h2⟩
/-- A thing is told otherwise. -/
theorem Sep.conv (h : Sep w0 w (t :: L)) (hc : ∀ F, t.P w F → ∃ F', t'.P w F' ∧ ∀ b, F' b → F b) : Sep w0 w (t' :: L) := by
  obtain ⟨F, h1, _, h3⟩ := h.open1
  obtain ⟨F', h4, h5⟩ := hc F h1
  exact h3 t' w F' h4 (fun b hb => .inl (h5 b hb)) (Chg.refl _ _)
theorem Sep.size (h : Sep w0 w L) : w0.heap.size ≤ w.heap.size := below_size h.below
end
theorem same_lt {w w' : World} {b : Nat} (h : w'.heap[b]? = w.heap[b]?) (hb : b < w.heap.size) : b < w'.heap.size := by
  rw [Array.getElem?_eq_getElem hb] at h
  exact (Array.getElem?_eq_some_iff.1 h).1
/-- A row of the call's own; its elements' rows are its own, too. -/
def ownT {α : Type} (d : Kd α) (e : Nat) (v : Value) (xs : List α) : Th where
  P := fun w F => (∃ base, d.R e w base F v xs) ∧ ∀ b, F b → b < w.heap.size
  foot := fun h => h.2
  step := by
    rintro w w' F ⟨⟨base, h1⟩, h2⟩ h
    exact ⟨⟨base, Kd.R_step h1 (fun k hk _ => h k hk)⟩, fun b hb => same_lt (h b hb) (h2 b hb)⟩
/-- The same, and its elements' rows are apart. -/
def rowsT {α : Type} (d : Kd α) (e : Nat) (v : Value) (xs : List α) : Th where
  P := fun w F => (∃ base, Kd.S d e w base F v xs) ∧ ∀ b, F b → b < w.heap.size
  foot := fun h => h.2
  step := by
    rintro w w' F ⟨⟨base, h1⟩, h2⟩ h
    exact ⟨⟨base, Kd.S_step h1 (fun k hk _ => h k hk)⟩, fun b hb => same_lt (h b hb) (h2 b hb)⟩
/-- A block. -/
def cellsT (g : Nat) (cs : Array Value) (e : Nat) : Th where
  P := fun w F => w.heap[g]? = some (.cells cs e (0, 0)) ∧ ∀ b, F b ↔ b = g
  foot := by
    rintro w F ⟨h1, h2⟩ b hb
    rw [(h2 b).1 hb]
    exact blk_lt h1
  step := by
    rintro w w' F ⟨h1, h2⟩ h
    exact ⟨(h g ((h2 g).2 rfl)).trans h1, h2⟩
section
variable {w0 w w' : World} {L : List Th} {α : Type} {d : Kd α} {e : Nat} {v : Value} {xs : List α}
theorem Sep.push_own {ok : Nat → Prop} (h : Sep w0 w L) (hr : d.R e w' w.heap.size ok v xs) (hb : Below w.heap.size w w') : Sep w0 w' (ownT d e v xs :: L) :=
  h.push (t := ownT d e v xs) hb (F := fun k => w.heap.size ≤ k ∧ k < w'.heap.size) ⟨⟨w.heap.size, Kd.R_mono (Kd.R_bound hr) (fun k hk => ⟨hk.2.1, hk.2.2.1⟩)⟩, fun b hb => hb.2⟩ (fun b hb => hb.1)
theorem Sep.push_rows {ok : Nat → Prop} (h : Sep w0 w L) (hr : Kd.S d e w' w.heap.size ok v xs) (hb : Below w.heap.size w w') : Sep w0 w' (rowsT d e v xs :: L) :=
  h.push (t := rowsT d e v xs) hb (F := fun k => w.heap.size ≤ k ∧ k < w'.heap.size) ⟨⟨w.heap.size, Kd.S_mono (Kd.S_bound hr) (fun k hk => ⟨hk.2.1, hk.2.2.1⟩)⟩, fun b hb => hb.2⟩ (fun b hb => hb.1)
theorem Sep.push_nil (h : Sep w0 w L) (d : Kd α) (e : Nat) : Sep w0 w (ownT d e (.slice none 0 0) [] :: L) :=
  h.push (t := ownT d e _ _) (Below.refl _ _) (F := fun _ => False) ⟨⟨0, Kd.R_nil _ _ _ _ _⟩, fun _ h => h.elim⟩ (fun _ h => h.elim)
theorem Sep.own (h : Sep w0 w (ownT d e v xs :: L)) : ∃ base ok, d.R e w base ok v xs := by
  obtain ⟨F, ⟨⟨base, h1⟩, _⟩, _⟩ := h.get
  exact ⟨base, F, h1⟩
theorem Sep.rows (h : Sep w0 w (rowsT d e v xs :: L)) : ∃ base ok, Kd.S d e w base ok v xs := by
  obtain ⟨F, ⟨⟨base, h1⟩, _⟩, _⟩ := h.get
  exact ⟨base, F, h1⟩
theorem Sep.rows_own (h : Sep w0 w (rowsT d e v xs :: L)) : Sep w0 w (ownT d e v xs :: L) :=
  h.conv (fun F hF => ⟨F, ⟨⟨hF.1.choose, Kd.S_R hF.1.choose_spec⟩, hF.2⟩, fun _ h => h⟩)
theorem Sep.cells {g : Nat} {cs : Array Value} (h : Sep w0 w (cellsT g cs e :: L)) : w.heap[g]? = some (.cells cs e (0, 0)) ∧ w0.heap.size ≤ g := by
  obtain ⟨F, h1, h2⟩ := h.get
  exact ⟨h1.1, h2 g ((h1.2 g).2 rfl)⟩
/-- A row of one's own is written, or lengthened (it may have moved). -/
theorem Sep.own_grown {v1 : Value} {ys : List α} {base0 : Nat} (h : Sep w0 w (ownT d e v xs :: L)) (hg : w.grownBy w' v.ownBlock)
    (hr : ∀ base ok, (∀ k, w.heap.size ≤ k → ok k) → d.R e w base ok v xs → d.R e w' base ok v1 ys) : Sep w0 w' (ownT d e v1 ys :: L) := by
  obtain ⟨F, ⟨⟨base, h1⟩, h2⟩, h3, h4⟩ := h.open1
  have h5 := hr base (fun k => F k ∨ w.heap.size ≤ k) (fun k hk => .inr hk) (Kd.R_mono h1 (fun _ hk => .inl hk))
  exact h4 (ownT d e v1 ys) w' (fun k => (F k ∨ w.heap.size ≤ k) ∧ k < w'.heap.size) ⟨⟨base, Kd.R_mono (Kd.R_bound h5) (fun k hk => ⟨hk.1, hk.2.2.1⟩)⟩, fun b hb => hb.2⟩ (fun b hb => hb.1) (Chg.of_grown hg (fun k hk => h1.1 k hk))
end
theorem Sep.open_own {w0 w : World} {L : List Th} {α : Type} {d : Kd α} {e : Nat} {v : Value} {xs : List α} (h : Sep w0 w (ownT d e v xs :: L)) : ∃ ok : Nat → Prop, (∀ k, w.heap.size ≤ k → ok k) ∧ d.R e w 0 ok v xs ∧
    ∀ (v1 : Value) (ys : List α) (w' : World), d.R e w' 0 ok v1 ys → w.grownBy w' v.ownBlock → Sep w0 w' (ownT d e v1 ys :: L) := by
  obtain ⟨F, ⟨⟨base, h1⟩, h2⟩, h3, h4⟩ := h.open1
  refine ⟨fun k => F k ∨ w.heap.size ≤ k, fun k hk => .inr hk, Kd.R_mono (Kd.R_lower h1 (Nat.zero_le _)) (fun _ hk => .inl hk), fun v1 ys w' hr hg => ?_⟩
  exact h4 (ownT d e v1 ys) w' (fun k => (F k ∨ w.heap.size ≤ k) ∧ k < w'.heap.size) ⟨⟨0, Kd.R_mono (Kd.R_bound hr) (fun k hk => ⟨hk.1, hk.2.2.1⟩)⟩, fun b hb => hb.2⟩ (fun b hb => hb.1) (Chg.of_grown hg (fun k hk => h1.1 k hk))
/-- A row's element of one cell is written. -/
theorem Sep.put {α : Type} {enc : α → Value} {h1 : ∀ x, (enc x).oneCell' = true} {w0 w : World} {L : List Th} {e g n cap : Nat} {xs : List α} (h : Sep w0 w (ownT (Kd.scalar enc h1) e (.slice (some ⟨g, 0, none⟩) n cap) xs :: L)) (i : Nat) (x : α) :
    Sep w0 (w.setCell ⟨g, i, none⟩ (enc x)) (ownT (Kd.scalar enc h1) e (.slice (some ⟨g, 0, none⟩) n cap) (xs.set i x) :: L) := by
  obtain ⟨F, ⟨⟨base, h2⟩, h3⟩, h4, h5⟩ := h.open1
  refine h5 (ownT _ e _ _) _ F ⟨⟨base, ?_⟩, fun b hb => by simpa [World.setCell] using h3 b hb⟩ (fun b hb => .inl hb) ((Chg.refl F w).setCell (h2.1 g rfl) i _)
  have h6 := Kd.R_putn h2 (i : Int) x
  rwa [Int.toNat_natCast] at h6
theorem Sep.cell {α : Type} {enc : α → Value} {h1 : ∀ x, (enc x).oneCell' = true} {w0 w : World} {L : List Th} {e g n cap : Nat} {xs : List α} (dflt : α) (h : Sep w0 w (ownT (Kd.scalar enc h1) e (.slice (some ⟨g, 0, none⟩) n cap) xs :: L)) (i : Nat) (hi : i < n) :
    w.cell? ⟨g, i, none⟩ = some (enc (xs.getD i dflt)) ∧ w.frozen? ⟨g, i, none⟩ = false := by
  obtain ⟨base, ok, h2⟩ := h.own
  have h3 := Kd.R_celln dflt h2 (i : Int) (by omega) (by omega)
  rw [Int.toNat_natCast] at h3
  exact h3
theorem add0' (b j : Nat) : (⟨b, 0, none⟩ : Addr).add j = ⟨b, j, none⟩ := by simp [Addr.add]; intro h; omega
section
variable {w0 w : World} {L : List Th} {bw n cw : Nat} {l : List (List Int)}
/-- A row of rows of bytes: what a cell of it holds. -/
theorem Sep.slot (h : Sep w0 w (ownT KB 28 (.slice (some ⟨bw, 0, none⟩) n cw) l :: L)) (i : Nat) (hi : i < n) :
    ∃ A c, w.cell? ⟨bw, i, none⟩ = some (.slice A (l.getD i []).length c) ∧ w.frozen? ⟨bw, i, none⟩ = false ∧ (Kd.int .u8).C w A (l.getD i []).length (l.getD i []) ∧ (l.getD i []).length ≤ c := by
  obtain ⟨base, ok, hr⟩ := h.own
  obtain ⟨hl, hl2, hC⟩ := Kd.R_reads' hr
  obtain ⟨adi, cei, ei, hcli, hKi, hcelli⟩ := Kd.C_get hC ([] : List Int) (i : Int) (by omega) (by omega)
  obtain ⟨Ai, ci, rfl, hli, hCi⟩ := hKi
  have hxi := hcelli 0 _ rfl
  rw [Int.toNat_natCast, show i * KB.sz + 0 = i from Nat.mul_one i] at hxi
  rw [Int.toNat_natCast] at hli hCi
  obtain rfl := Option.some.inj ei
  rw [add0'] at hxi
  obtain ⟨c, _, _, _, hf⟩ := Kd.R_elem hr [] (i : Int) (by omega) (by omega)
  have h2 := hf 0
  rw [Int.toNat_natCast, show i * KB.sz + 0 = i from Nat.mul_one i] at h2
  exact ⟨Ai, ci, hxi, h2, hCi, hli⟩
/-- A row becomes an element of it. -/
theorem Sep.put_row {v : Value} {x : List Int} (h : Sep w0 w (ownT (Kd.int .u8) 5 v x :: ownT KB 28 (.slice (some ⟨bw, 0, none⟩) n cw) l :: L)) (i : Nat) (hi : i < n) :
    Sep w0 (w.setCell ⟨bw, i, none⟩ v) (ownT KB 28 (.slice (some ⟨bw, 0, none⟩) n cw) (l.set i x) :: L) := by
  obtain ⟨U, ⟨F1, ⟨⟨b1, h1⟩, hlt1⟩, h2, F2, ⟨⟨b2, h4⟩, hlt2⟩, h5, _⟩, h6, h7⟩ := Sep.split (M := [ownT (Kd.int .u8) 5 v x, ownT KB 28 (.slice (some ⟨bw, 0, none⟩) n cw) l]) h
  have hbw : F2 bw := h4.1 bw rfl
  have hr : Kd.R KB 28 w 0 (fun k => F1 k ∨ F2 k) (.slice (some ⟨bw, 0, none⟩) n cw) l := Kd.R_mono (Kd.R_lower h4 (Nat.zero_le _)) (fun _ hk => .inr hk)
  obtain ⟨c0, hl, hM, hc, hfz⟩ := Kd.R_elem hr [] (i : Int) (by omega) (by omega)
  rw [Int.toNat_natCast] at hc
  have h3 := Kd.R_seg hr (i : Int) (by omega) (by omega) (j := 0) (seg := [v]) hl (by rw [Int.toNat_natCast]; exact hc) (show 0 + 1 ≤ 1 by decide) (x' := x) (okp := F1) (by
    have hl1 : c0.length = 1 := hl
    obtain ⟨u, rfl⟩ : ∃ u, c0 = [u] := by
      match c0, hl1 with
      | [u], _ => exact ⟨u, rfl⟩
    exact ⟨v, rfl, Kd.R_lower h1 (Nat.zero_le _)⟩) (fun k hk => ⟨.inl hk, fun e => (h5 bw hbw).2 (e ▸ hk)⟩)
  obtain ⟨h3, _⟩ := h3
  rw [Int.toNat_natCast] at h3
  have e : w.setCells bw (i * KB.sz + 0) [v] = w.setCell ⟨bw, i, none⟩ v := by
    show w.setCell ⟨bw, i * 1 + 0, none⟩ v = _
    rw [Nat.mul_one, Nat.add_zero]
  rw [e] at h3
  refine h7 [ownT KB 28 _ _] _ ⟨fun k => F1 k ∨ F2 k, ⟨⟨0, h3⟩, fun b hb => by simpa [World.setCell] using hb.elim (hlt1 b) (hlt2 b)⟩, fun b hb => .inl (hb.elim (h2 b) (fun h => (h5 b h).1)), trivial⟩ ((Chg.refl U w).setCell (h5 bw hbw).1 i v)
end
end Go.Proofs.Ytddnhcnkjcdfgaa.M
