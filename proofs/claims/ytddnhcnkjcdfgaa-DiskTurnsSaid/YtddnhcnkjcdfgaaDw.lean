-- Two disks side by side
import Derived.Test.YtddnhcnkjcdfgaaDt
namespace Go.Proofs.Ytddnhcnkjcdfgaa.M
open Go.RowKit Go.Maps Go.Proofs.YtddnhcnkjcdfgaaW.PrintWords Go.Proofs.YtddnhcnkjcdfgaaW.PrintLast Go.Proofs.YtddnhcnkjcdfgaaW.PrintMore
open Go.Proofs.Ytddnhcnkjcdfgaa.P
set_option linter.unusedVariables false
set_option linter.unusedSimpArgs false
/-- Two disks that began at w2 with the blocks F1 and F2; nothing else that lay at w2 has changed. -/
def Two (w2 w' : World) (b1 g1 b2 g2 : Nat) (F1 F2 : Nat → Prop) (s1 s2 : DS) : Prop :=
  ∃ Fd Fe, DkAt w' b1 g1 Fd s1 ∧ DkAt w' b2 g2 Fe s2 ∧ (∀ x, Fd x → ¬ Fe x) ∧ (∀ x, Fd x → F1 x ∨ w2.heap.size ≤ x) ∧ (∀ x, Fe x → F2 x ∨ w2.heap.size ≤ x) ∧ Chg (fun x => F1 x ∨ F2 x) w2 w'
section
variable {w2 w' : World} {b1 g1 b2 g2 : Nat} {F1 F2 : Nat → Prop} {s1 s2 : DS}
theorem Two.start (h1 : DkAt w2 b1 g1 F1 s1) (h2 : DkAt w2 b2 g2 F2 s2) (hd : ∀ x, F1 x → ¬ F2 x) : Two w2 w2 b1 g1 b2 g2 F1 F2 s1 s2 :=
  ⟨F1, F2, h1, h2, hd, fun x h => .inl h, fun x h => .inl h, Chg.refl _ _⟩
theorem Two.swap (h : Two w2 w' b1 g1 b2 g2 F1 F2 s1 s2) : Two w2 w' b2 g2 b1 g1 F2 F1 s2 s1 := by
  obtain ⟨Fd, Fe, h1, h2, hd, e1, e2, hc⟩ := h
  exact ⟨Fe, Fd, h2, h1, fun x h h' => hd x h' h, e2, e1, hc.mono (fun x hx => hx.symm)⟩
theorem Two.chg (h : Two w2 w' b1 g1 b2 g2 F1 F2 s1 s2) : Chg (fun x => F1 x ∨ F2 x) w2 w' := by
  obtain ⟨_, _, _, _, _, _, _, hc⟩ := h
  exact hc
theorem Two.below {w'' : World} (h : Two w2 w' b1 g1 b2 g2 F1 F2 s1 s2) (hb : Below w'.heap.size w' w'') : Two w2 w'' b1 g1 b2 g2 F1 F2 s1 s2 := by
  obtain ⟨Fd, Fe, h1, h2, hd, e1, e2, hc⟩ := h
  exact ⟨Fd, Fe, h1.below hb, h2.below hb, hd, e1, e2, hc.trans (Chg.of_below (F := fun _ => False) hb) (fun _ h => h.elim)⟩
/-- One act on the first disk. -/
theorem Two.act {w'' : World} (h : Two w2 w' b1 g1 b2 g2 F1 F2 s1 s2) {s1' : DS} (ha : ∀ Fd, DkAt w' b1 g1 Fd s1 → (∀ x, Fd x → F1 x ∨ w2.heap.size ≤ x) → ∃ F', DkAt w'' b1 g1 F' s1' ∧ (∀ x, F' x → Fd x ∨ w'.heap.size ≤ x) ∧ Chg Fd w' w'') : Two w2 w'' b1 g1 b2 g2 F1 F2 s1' s2 := by
  obtain ⟨Fd, Fe, h1, h2, hd, e1, e2, hc⟩ := h
  obtain ⟨F', h3, e3, hx⟩ := ha Fd h1 e1
  refine ⟨F', Fe, h3, h2.chg hx (fun x hx' hF => hd x hF hx'), fun x hx' hE => ?_, fun x hx' => ?_, e2, hc.trans hx (fun x hx' => (e1 x hx').imp .inl id)⟩
  · rcases e3 x hx' with h_ | h_
    · exact hd x h_ hE
    · have := (h2.foot x hE).2; omega
  · rcases e3 x hx' with h_ | h_
    · exact e1 x h_
    · exact .inr (Nat.le_trans hc.size h_)
theorem Two.n (h : Two w2 w' b1 g1 b2 g2 F1 F2 s1 s2) : 2 ≤ s1.n ∧ s1.n ≤ 65536 := by
  obtain ⟨Fd, Fe, h1, _⟩ := h
  exact h1.n_le
theorem Two.lasts (h : Two w2 w' b1 g1 b2 g2 F1 F2 s1 s2) : s1.L.length = s1.n ∧ ∀ x ∈ s1.L, x.length = 512 := by
  obtain ⟨Fd, Fe, h1, _⟩ := h
  exact h1.lasts
theorem Two.write (h : Two w2 w' b1 g1 b2 g2 F1 F2 s1 s2) (i : Nat) (A : Option Addr) (c : Nat) (b : List Int) (hi : i < s1.n) (hC : (Kd.int .u8).C w' A 512 b) (hne : ∀ ad, A = some ad → ¬ F1 ad.block ∧ ad.block < w2.heap.size) (hc : s1.c < 1073741824) :
    Calls Try.prog 16 #[.pointer (some ⟨g1, 0, none⟩), .int .i64 (i : Int), .slice A 512 c] w' fun e w'' => e = .returned (.int .i64 0) ∧ Two w2 w'' b1 g1 b2 g2 F1 F2 (s1.put i b) s2 ∧ Chg (fun x => F1 x ∨ w2.heap.size ≤ x) w' w'' := by
  obtain ⟨Fd, Fe, h1, h2, hd, e1, e2, hch⟩ := h
  refine (write_at g1 i A c b w' b1 Fd s1 h1 hi hC (fun ad e hF => by
    have h_ := hne ad e
    rcases e1 _ hF with h3 | h3
    · exact h_.1 h3
    · have := h_.2; omega) hc).mono ?_
  rintro e w'' ⟨he, F', hdk, hF, hx⟩
  refine ⟨he, ?_, hx.mono e1⟩
  refine ⟨F', Fe, hdk, h2.chg hx (fun x hx' hF => hd x hF hx'), fun x hx' hE => ?_, fun x hx' => ?_, e2, hch.trans hx (fun x hx' => (e1 x hx').imp .inl id)⟩
  · rcases hF x hx' with h_ | h_
    · exact hd x h_ hE
    · have := (h2.foot x hE).2; omega
  · rcases hF x hx' with h_ | h_
    · exact e1 x h_
    · exact .inr (Nat.le_trans hch.size h_)
theorem Two.flush (h : Two w2 w' b1 g1 b2 g2 F1 F2 s1 s2) :
    Calls Try.prog 17 #[.pointer (some ⟨g1, 0, none⟩)] w' fun e w'' => (∃ v, e = .returned v) ∧ Two w2 w'' b1 g1 b2 g2 F1 F2 s1.flush s2 ∧ Chg (fun x => F1 x ∨ w2.heap.size ≤ x) w' w'' := by
  obtain ⟨Fd, Fe, h1, h2, hd, e1, e2, hch⟩ := h
  refine (flush_at g1 w' b1 Fd s1 h1).mono ?_
  rintro e w'' ⟨he, F', hdk, hF, hx⟩
  exact ⟨he, ⟨F', Fe, hdk, h2.chg hx (fun x hx' hF => hd x hF hx'), fun x hx' => hd x (hF x hx'), fun x hx' => e1 x (hF x hx'), e2, hch.trans hx (fun x hx' => (e1 x hx').imp .inl id)⟩, hx.mono e1⟩
/-- The fates lay there ahead of both disks. -/
theorem Two.crash {w : World} (h : Two w2 w' b1 g1 b2 g2 F1 F2 s1 s2) (hc : s1.c < 1073741824) (A1 : Option Addr) (c1 : Nat) (fs : List Int) (hC : (Kd.int .i64).C w A1 fs.length fs) (hb : Below w.heap.size w w') (hF : ∀ x, F1 x → w.heap.size ≤ x) (hw : w.heap.size ≤ w2.heap.size) :
    Calls Try.prog 30 #[.pointer (some ⟨g1, 0, none⟩), .slice A1 fs.length c1] w' fun e w'' => (∃ v, e = .returned v) ∧ Two w2 w'' b1 g1 b2 g2 F1 F2 (s1.crash fs) s2 ∧ Chg (fun x => F1 x ∨ w2.heap.size ≤ x) w' w'' := by
  obtain ⟨Fd, Fe, h1, h2, hd, e1, e2, hch⟩ := h
  have hge : ∀ x, Fd x → w.heap.size ≤ x := fun x hx => (e1 x hx).elim (hF x) (Nat.le_trans hw)
  refine (crash_at g1 w' b1 Fd s1 h1 hc A1 c1 fs (fun W hW => Kd.C_below hC (Chg.below hb hW (below_size hb) hge)) (fun ad e hp hf => by
    have h1_ := hge _ hf
    obtain ⟨ad2, e2, hcell⟩ := Kd.at_int hC 0 (by omega) (by omega)
    rw [e] at e2
    obtain rfl := Option.some.inj e2
    have h2_ := World.block_lt_of_cell? w _ hcell
    have e_ : (ad.add (0 : Int).toNat).block = ad.block := by unfold Addr.add; split <;> rfl
    rw [e_] at h2_
    omega)).mono ?_
  rintro e w'' ⟨he, F', hdk, hF', hx⟩
  exact ⟨he, ⟨F', Fe, hdk, h2.chg hx (fun x hx' hF => hd x hF hx'), fun x hx' => hd x (hF' x hx'), fun x hx' => e1 x (hF' x hx'), e2, hch.trans hx (fun x hx' => (e1 x hx').imp .inl id)⟩, hx.mono e1⟩
/-- The fates are a row of numbers that was made behind both disks. -/
theorem Two.crash_own {base : Nat} {ok : Nat → Prop} (h : Two w2 w' b1 g1 b2 g2 F1 F2 s1 s2) (hc : s1.c < 1073741824) (A1 : Option Addr) (c1 : Nat) (fs : List Int) (hR : (Kd.int .i64).R 3 w' base ok (.slice A1 fs.length c1) fs) :
    Calls Try.prog 30 #[.pointer (some ⟨g1, 0, none⟩), .slice A1 fs.length c1] w' fun e w'' => (∃ v, e = .returned v) ∧ Two w2 w'' b1 g1 b2 g2 F1 F2 (s1.crash fs) s2 ∧ Chg (fun x => F1 x ∨ w2.heap.size ≤ x) w' w'' := by
  obtain ⟨Fd, Fe, h1, h2, hd, e1, e2, hch⟩ := h
  have hno : ∀ k, (Value.slice A1 fs.length c1).ownBlock = some k → ¬ Fd k := fun k hk => by
    obtain ⟨cs, hcs⟩ := Kd.R_typed hR k hk
    exact h1.typed hcs (by decide) (by decide)
  refine (crash_at g1 w' b1 Fd s1 h1 hc A1 c1 fs (fun W hW => (Kd.R_reads' (Kd.R_step (Kd.R_of_own (ok := fun k => (Value.slice A1 fs.length c1).ownBlock = some k) (Kd.own_of_R hR) (fun k hk => hk)) (fun k hk hlt => hW.block k hlt (hno k hk)))).2.2) (fun ad e hp hf => by
    obtain ⟨gg, cc, e2, _, _, _⟩ := Kd.R_form hR hp
    injection e2 with e2 _ _
    subst e2
    cases e
    exact hno gg rfl hf)).mono ?_
  rintro e w'' ⟨he, F', hdk, hF', hx⟩
  exact ⟨he, ⟨F', Fe, hdk, h2.chg hx (fun x hx' hF => hd x hF hx'), fun x hx' => hd x (hF' x hx'), fun x hx' => e1 x (hF' x hx'), e2, hch.trans hx (fun x hx' => (e1 x hx').imp .inl id)⟩, hx.mono e1⟩
theorem Two.read (h : Two w2 w' b1 g1 b2 g2 F1 F2 s1 s2) (i : Nat) (hi : i < s1.n) :
    Calls Try.prog 25 #[.pointer (some ⟨g1, 0, none⟩), .int .i64 (i : Int)] w' fun e w'' => ∃ v, e = .returned (.tuple #[v, .int .i64 0]) ∧ Kd.R (Kd.int .u8) 5 w'' w'.heap.size (fun _ => True) v (s1.cur i) ∧ Two w2 w'' b1 g1 b2 g2 F1 F2 s1.reads s2 ∧ Chg (fun x => F1 x ∨ w2.heap.size ≤ x) w' w'' := by
  obtain ⟨Fd, Fe, h1, h2, hd, e1, e2, hch⟩ := h
  refine (read_at g1 i w' b1 Fd s1 h1 hi).mono ?_
  rintro e w'' ⟨v, he, hr, hdk, hx⟩
  exact ⟨v, he, hr, ⟨Fd, Fe, hdk, h2.chg hx (fun x hx' hF => hd x hF hx'), hd, e1, e2, hch.trans hx (fun x hx' => (e1 x hx').imp .inl id)⟩, hx.mono e1⟩
theorem Two.image (h : Two w2 w' b1 g1 b2 g2 F1 F2 s1 s2) :
    Calls Try.prog 26 #[.pointer (some ⟨g1, 0, none⟩)] w' fun e w'' => ∃ go c, e = .returned (.slice (some ⟨go, 0, none⟩) s1.n c) ∧ Kd.S KB 28 w'' w'.heap.size (fun _ => True) (.slice (some ⟨go, 0, none⟩) s1.n c) s1.L ∧ Below w'.heap.size w' w'' := by
  obtain ⟨Fd, Fe, h1, h2, hd, e1, e2, hch⟩ := h
  exact image_at g1 w' b1 Fd s1 h1
theorem Two.tells (h : Two w2 w' b1 g1 b2 g2 F1 F2 s1 s2) (A2 : Option Addr) (c2 : Nat) (l2 : List S30) (a3 : Int) (hs2 : ∀ Fd, DkAt w' b1 g1 Fd s1 → (∀ x, Fd x → F1 x ∨ w2.heap.size ≤ x) → Kd.V k30 30 w' w'.heap.size (fun k_ => ¬ Fd k_) (.slice A2 l2.length c2) l2) (hl : ∀ i, i < s1.n → ∃ kl, kilnlaw3_last.f kl l2 (i : Int) a3 = some (s1.cur i)) :
    Calls Try.prog 18 #[.pointer (some ⟨g1, 0, none⟩), .int .i64 (s1.n : Int), .slice A2 l2.length c2, .int .i64 a3] w' fun e w'' => e = .returned (.bool true) ∧ ∃ r', Two w2 w'' b1 g1 b2 g2 F1 F2 (s1.withR r') s2 ∧ Chg (fun x => F1 x ∨ w2.heap.size ≤ x) w' w'' := by
  obtain ⟨Fd, Fe, h1, h2, hd, e1, e2, hch⟩ := h
  refine (tells_calls g1 b1 Fd s1 A2 c2 l2 a3 w' h1 (hs2 Fd h1 e1) hl).mono ?_
  rintro e w'' ⟨he, r', hdk, hx⟩
  exact ⟨he, r', ⟨Fd, Fe, hdk, h2.chg hx (fun x hx' hF => hd x hF hx'), hd, e1, e2, hch.trans hx (fun x hx' => (e1 x hx').imp .inl id)⟩, hx.mono e1⟩
end
end Go.Proofs.Ytddnhcnkjcdfgaa.M
