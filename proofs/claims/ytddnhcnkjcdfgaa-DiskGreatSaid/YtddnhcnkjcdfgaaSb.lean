-- A disk as a thing in memory
import Derived.Test.YtddnhcnkjcdfgaaSa
import Derived.Test.YtddnhcnkjcdfgaaDr
namespace Go.Proofs.Ytddnhcnkjcdfgaa.M
open Go.RowKit Go.Maps Go.Proofs.YtddnhcnkjcdfgaaW.PrintWords Go.Proofs.YtddnhcnkjcdfgaaW.PrintLast Go.Proofs.YtddnhcnkjcdfgaaW.PrintMore
set_option linter.unusedVariables false
set_option linter.unusedSimpArgs false
theorem DkIn.move {w w' : World} {base g lb cp mb k : Nat} {s : DS} {f : Nat → Value} {D : DataW Value} (h : DkIn w base g s lb cp mb f k D) (hm : ∀ b, Fp g lb mb f s.n b → w'.heap[b]? = w.heap[b]?) : DkIn w' base g s lb cp mb f k D := by
  refine ⟨(hm g (.inl rfl)).trans h.hd, h.la.step (fun b hb _ => hm b (.inr (.inl (Option.some.inj hb).symm))), ?_, h.kc, h.at_, h.ks, fun i hi => (h.rows i hi).step (fun b hb _ => hm b (.inr (.inr (.inr ⟨i, hi, hb⟩)))), h.wl, h.sep, h.sepl, h.gb, h.mbb, h.n2, h.nm⟩
  obtain ⟨es, ck, hb, r⟩ := h.mp
  exact ⟨es, ck, (hm mb (.inr (.inr (.inl rfl)))).trans hb, r⟩
def dkT (g : Nat) (s : DS) : Th where
  P := fun w F => ∃ base, DkAt w base g F s
  foot := by
    rintro w F ⟨base, h⟩ b hb
    exact (h.foot b hb).2
  step := by
    rintro w w' F ⟨base, lb, cp, mb, f, k, D, h1, h2⟩ h
    exact ⟨base, lb, cp, mb, f, k, D, h1.move (fun b hb => h b ((h2 b).2 hb)), h2⟩
section
variable {w0 w : World} {L : List Th} {g : Nat} {s : DS}
theorem Sep.dk_n (h : Sep w0 w (dkT g s :: L)) : 2 ≤ s.n ∧ s.n ≤ 65536 := by
  obtain ⟨F, ⟨base, h1⟩, _⟩ := h.get
  exact h1.n_le
theorem Sep.dk_lasts (h : Sep w0 w (dkT g s :: L)) : s.L.length = s.n ∧ ∀ x ∈ s.L, x.length = 512 := by
  obtain ⟨F, ⟨base, h1⟩, _⟩ := h.get
  exact h1.lasts
theorem Sep.read (h : Sep w0 w (dkT g s :: L)) (i : Nat) (hi : i < s.n) :
    Calls Try.prog 25 #[.pointer (some ⟨g, 0, none⟩), .int .i64 (i : Int)] w fun e w' => ∃ v, e = .returned (.tuple #[v, .int .i64 0]) ∧ Sep w0 w' (ownT (Kd.int .u8) 5 v (s.cur i) :: dkT g s.reads :: L) := by
  obtain ⟨F, ⟨base, h1⟩, h2, h3⟩ := h.open_
  refine (read_at g i w base F s h1 hi).mono ?_
  rintro e w' ⟨v, he, hr, hd, hc⟩
  refine ⟨v, he, h3 [ownT (Kd.int .u8) 5 v (s.cur i), dkT g s.reads] w' ⟨fun k => w.heap.size ≤ k ∧ k < w'.heap.size, ⟨⟨w.heap.size, Kd.R_mono (Kd.R_bound hr) (fun k hk => ⟨hk.2.1, hk.2.2.1⟩)⟩, fun b hb => hb.2⟩, fun b hb => .inr hb.1, F, ⟨base, hd⟩, fun b hb => ⟨.inl hb, fun hx => Nat.not_lt.2 hx.1 (h1.foot b hb).2⟩, trivial⟩ hc⟩
theorem Sep.flush (h : Sep w0 w (dkT g s :: L)) :
    Calls Try.prog 17 #[.pointer (some ⟨g, 0, none⟩)] w fun e w' => (∃ v, e = .returned v) ∧ Sep w0 w' (dkT g s.flush :: L) := by
  obtain ⟨F, ⟨base, h1⟩, h2, h3⟩ := h.open1
  refine (flush_at g w base F s h1).mono ?_
  rintro e w' ⟨he, F', hd, hF, hc⟩
  exact ⟨he, h3 (dkT g s.flush) w' F' ⟨base, hd⟩ (fun b hb => .inl (hF b hb)) hc⟩
theorem Sep.image (h : Sep w0 w (dkT g s :: L)) :
    Calls Try.prog 26 #[.pointer (some ⟨g, 0, none⟩)] w fun e w' => ∃ go c, e = .returned (.slice (some ⟨go, 0, none⟩) s.n c) ∧ Sep w0 w' (rowsT KB 28 (.slice (some ⟨go, 0, none⟩) s.n c) s.L :: dkT g s :: L) := by
  obtain ⟨F, ⟨base, h1⟩, h2, h3⟩ := h.open_
  refine (image_at g w base F s h1).mono ?_
  rintro e w' ⟨go, c, he, hr, hb⟩
  exact ⟨go, c, he, h.push_rows hr hb⟩
/-- What is written lay there ahead of the call, or is a row that is new. -/
theorem Sep.write (h : Sep w0 w (dkT g s :: L)) (i : Nat) (hi : i < s.n) (hc : s.c < 1073741824) (A : Option Addr) (c : Nat) (b : List Int) (hC : (Kd.int .u8).C w A 512 b) (hne : ∀ F ad, (∃ base, DkAt w base g F s) → (∀ b, F b → w0.heap.size ≤ b) → A = some ad → ¬ F ad.block) :
    Calls Try.prog 16 #[.pointer (some ⟨g, 0, none⟩), .int .i64 (i : Int), .slice A 512 c] w fun e w' => e = .returned (.int .i64 0) ∧ Sep w0 w' (dkT g (s.put i b) :: L) := by
  obtain ⟨F, ⟨base, h1⟩, h2, h3⟩ := h.open1
  refine (write_at g i A c b w base F s h1 hi hC (fun ad e => hne F ad ⟨base, h1⟩ h2 e) hc).mono ?_
  rintro e w' ⟨he, F', hd, hF, hch⟩
  exact ⟨he, h3 (dkT g (s.put i b)) w' F' ⟨base, hd⟩ hF hch⟩
theorem Sep.write_own (v : Value) (b : List Int) (h : Sep w0 w (ownT (Kd.int .u8) 5 v b :: dkT g s :: L)) (i : Nat) (hi : i < s.n) (hc : s.c < 1073741824) (hb : b.length = 512) :
    Calls Try.prog 16 #[.pointer (some ⟨g, 0, none⟩), .int .i64 (i : Int), v] w fun e w' => e = .returned (.int .i64 0) ∧ Sep w0 w' (ownT (Kd.int .u8) 5 v b :: dkT g (s.put i b) :: L) := by
  obtain ⟨base0, ok, hr⟩ := h.own
  obtain ⟨A, c, rfl⟩ := Kd.R_slice hr
  rw [hb]
  have hC := (Kd.R_reads' hr).2.2
  rw [hb] at hC
  obtain ⟨G, ⟨hG1, hG2⟩, hG3, hG4⟩ := h.open_
  obtain ⟨U, ⟨F0, h1, h2, F, ⟨base, h4⟩, h5, _⟩, h6, h7⟩ := Sep.split (M := [ownT (Kd.int .u8) 5 (.slice A b.length c) b, dkT g s]) h
  refine (write_at g i A c b w base F s h4 hi hC (fun ad e hF => ?_) hc).mono ?_
  · obtain ⟨⟨b2, hr2⟩, _⟩ := h1
    obtain ⟨g2, c2, e2, _⟩ := Kd.R_form hr2 (by omega)
    rw [e] at e2
    injection e2 with e2
    cases e2
    exact (h5 _ hF).2 (hr2.1 _ (by rw [e]; rfl))
  · rintro e w' ⟨he, F', hd, hF, hch⟩
    rw [← hb]
    refine ⟨he, h7 [ownT (Kd.int .u8) 5 (.slice A b.length c) b, dkT g (s.put i b)] w' ⟨F0, Th.step _ h1 (fun x hx => hch.block x (Th.foot _ h1 x hx) (fun hF => (h5 x hF).2 hx)), fun x hx => .inl (h2 x hx), F', ⟨base, hd⟩, fun x hx => ?_, trivial⟩ (hch.mono (fun x hx => (h5 x hx).1))⟩
    rcases hF x hx with hx1 | hx1
    · exact ⟨.inl (h5 x hx1).1, (h5 x hx1).2⟩
    · exact ⟨.inr hx1, fun hx2 => Nat.not_lt.2 hx1 (Th.foot _ h1 x hx2)⟩
/-- The fates are a row of the call's own. -/
theorem Sep.crash_own (fs : List Int) (v : Value) (h : Sep w0 w (ownT (Kd.int .i64) 3 v fs :: dkT g s :: L)) (hc : s.c < 1073741824) :
    Calls Try.prog 30 #[.pointer (some ⟨g, 0, none⟩), v] w fun e w' => (∃ v, e = .returned v) ∧ Sep w0 w' (ownT (Kd.int .i64) 3 v fs :: dkT g (s.crash fs) :: L) := by
  obtain ⟨base0, ok, hr⟩ := h.own
  obtain ⟨A, c, rfl⟩ := Kd.R_slice hr
  obtain ⟨U, ⟨F0, h1, h2, F, ⟨base, h4⟩, h5, _⟩, h6, h7⟩ := Sep.split (M := [ownT (Kd.int .i64) 3 (.slice A fs.length c) fs, dkT g s]) h
  obtain ⟨⟨b2, hr2⟩, hlt⟩ := h1
  refine (crash_at g w base F s h4 hc A c fs (fun W hW => (Kd.R_reads' (Kd.R_step hr2 (fun k hk hlt => hW.block k hlt (fun hF => (h5 k hF).2 hk)))).2.2) (fun ad e hp hF => ?_)).mono ?_
  · obtain ⟨g2, c2, e2, _⟩ := Kd.R_form hr2 hp
    rw [e] at e2
    injection e2 with e2
    cases e2
    exact (h5 _ hF).2 (hr2.1 _ (by rw [e]; rfl))
  · rintro e w' ⟨he, F', hd, hF, hch⟩
    exact ⟨he, h7 [ownT (Kd.int .i64) 3 (.slice A fs.length c) fs, dkT g (s.crash fs)] w' ⟨F0, Th.step (ownT (Kd.int .i64) 3 (.slice A fs.length c) fs) ⟨⟨b2, hr2⟩, hlt⟩ (fun x hx => hch.block x (hlt x hx) (fun hF => (h5 x hF).2 hx)), fun x hx => .inl (h2 x hx), F', ⟨base, hd⟩, fun x hx => ⟨.inl (h5 x (hF x hx)).1, (h5 x (hF x hx)).2⟩, trivial⟩ (hch.mono (fun x hx => (h5 x hx).1))⟩
/-- The fates lay there ahead. -/
theorem Sep.crash_arg (h : Sep w0 w (dkT g s :: L)) (hc : s.c < 1073741824) (A1 : Option Addr) (c1 : Nat) (fs : List Int) (hC : (Kd.int .i64).C w0 A1 fs.length fs) :
    Calls Try.prog 30 #[.pointer (some ⟨g, 0, none⟩), .slice A1 fs.length c1] w fun e w' => (∃ v, e = .returned v) ∧ Sep w0 w' (dkT g (s.crash fs) :: L) := by
  obtain ⟨F, ⟨base, h1⟩, h2, h3⟩ := h.open1
  refine (crash_at g w base F s h1 hc A1 c1 fs (fun W hW => Kd.C_below hC (Chg.below h.below hW h.size h2)) (fun ad e hp hf => by
    have h1_ := h2 _ hf
    obtain ⟨ad2, e2, hcell⟩ := Kd.at_int hC 0 (by omega) (by omega)
    rw [e] at e2
    obtain rfl := Option.some.inj e2
    have h2_ := World.block_lt_of_cell? w0 _ hcell
    have e_ : (ad.add (0 : Int).toNat).block = ad.block := by unfold Addr.add; split <;> rfl
    rw [e_] at h2_
    omega)).mono ?_
  rintro e w' ⟨he, F', hd, hF', hx⟩
  exact ⟨he, h3 (dkT g (s.crash fs)) w' F' ⟨base, hd⟩ (fun b hb => .inl (hF' b hb)) hx⟩
end
theorem Sep.new {w0 w : World} {L : List Th} (h : Sep w0 w L) (n : Nat) (h2 : 2 ≤ n) (hm : n ≤ 65536) :
    Calls Try.prog 21 #[.int .i64 (n : Int)] w fun e w' => ∃ g, e = .returned (.tuple #[.pointer (some ⟨g, 0, none⟩), .int .i64 0]) ∧ Sep w0 w' (dkT g (DS.fresh n (List.replicate n zeros)) :: L) := by
  refine (new_calls n w h2 hm).mono ?_
  rintro e w' ⟨g, F, he, hd, hb⟩
  exact ⟨g, he, h.push (t := dkT g _) hb (F := F) ⟨_, hd⟩ (fun b hb => (hd.foot b hb).1)⟩
end Go.Proofs.Ytddnhcnkjcdfgaa.M
