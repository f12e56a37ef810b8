import Derived.Test.YthmnomdjpbfefaaDoorB
import Derived.Test.YthmnomdjpbfefaaDoorPx5
import Derived.Test.YthmnomdjpbfefaaDoorPx6
import Derived.Lib.Strings
namespace Go.Proofs.YthmnomdjpbfefaaDoor.A
open Go.RowKit Go.Proofs.YthmnomdjpbfefaaDoorW.PrintWords Go.Proofs.YthmnomdjpbfefaaDoorW.PrintLast Go.Proofs.YthmnomdjpbfefaaDoorW.PrintMore Go.Proofs.YthmnomdjpbfefaaDoor.P
set_option linter.unusedVariables false
set_option linter.unusedSimpArgs false

theorem started_ev : Ev (fun k => kilnlaw1_started.f k) true := Ev.of kilnlaw1_started.mono (k := 40) (by decide +kernel)

theorem strOfNums_toList (l : List Int) : (strOfNums l).toList = l.map fun n => UInt8.ofNat n.toNat := by
  rw [ByteArray.toList_eq]; simp [strOfNums]
theorem bytes_inj : ∀ (l m : List Int), bytes_ l → bytes_ m → (l.map fun n => UInt8.ofNat n.toNat) = (m.map fun n => UInt8.ofNat n.toNat) → l = m
  | [], [], _, _, _ => rfl
  | [], _ :: _, _, _, h => by simp at h
  | _ :: _, [], _, _, h => by simp at h
  | a :: l, b :: m, hl, hm, h => by
    simp only [List.map_cons, List.cons.injEq] at h
    have ha := hl a (List.mem_cons_self ..)
    have hb := hm b (List.mem_cons_self ..)
    have h1 := congrArg UInt8.toNat h.1
    simp only [UInt8.toNat_ofNat'] at h1
    rw [bytes_inj l m (fun x hx => hl x (List.mem_cons_of_mem _ hx)) (fun x hx => hm x (List.mem_cons_of_mem _ hx)) h.2]
    congr 1; omega
theorem same_some {l m : List Int} (hl : bytes_ l) (hm : bytes_ m) : kilnlaw1_same.f l m = some (decide (l = m)) := by
  unfold kilnlaw1_same.f
  rw [strOfNums_toList, strOfNums_toList]
  congr 1
  by_cases h : l = m
  · subst h; simp
  · have : ¬ ((l.map fun n => UInt8.ofNat n.toNat) = (m.map fun n => UInt8.ofNat n.toNat)) := fun e => h (bytes_inj l m hl hm e)
    simp [this, h]
theorem bytes_take {l : List Int} (h : bytes_ l) (n : Nat) : bytes_ (l.take n) := fun x hx => h x (List.mem_of_mem_take hx)
theorem bytes_drop {l : List Int} (h : bytes_ l) (n : Nat) : bytes_ (l.drop n) := fun x hx => h x (List.mem_of_mem_drop hx)
theorem bytes_append {l m : List Int} (h : bytes_ l) (h' : bytes_ m) : bytes_ (l ++ m) := fun x hx => (List.mem_append.1 hx).elim (h x) (h' x)
theorem bytes_uint (v : Nat) : bytes_ (uintL v) := uintL_byte v
theorem bytes_nil : bytes_ [] := fun x hx => by cases hx
theorem bytes_wf {l : List Int} (h : ∀ x ∈ l, (Lit.int .u8 x).wf = true) : bytes_ l := fun x hx => by
  have := h x hx
  simp [Lit.wf, IntKind.min, IntKind.max, IntKind.signed, IntKind.bits] at this
  omega
theorem u64_wf {x : Int} (h : (Lit.int .u64 x).wf = true) : 0 ≤ x ∧ x < 18446744073709551616 := by
  simp [Lit.wf, IntKind.min, IntKind.max, IntKind.signed, IntKind.bits] at h
  omega

/-! ## byte strings -/
def bytesL (l : List Int) : List Int := uintL l.length ++ l
theorem bytesL_ok {l : List Int} (h : bytes_ l) : bytes_ (bytesL l) := bytes_append (bytes_uint _) h
theorem bytes_ev {l : List Int} (h : l.length ≤ 140737488351232) : Ev (fun k => wire_Bytes.f k l) (bytesL l) := by
  unfold wire_Bytes.f
  have hl := uintL_len10 (v := l.length) (by omega)
  refine Ev.bind (a := uintL l.length) ?_ (Ev.const ?_)
  · rw [u64w (by omega) (by omega)]
    exact uint_ev (by omega) (by omega)
  · rw [if_pos (by omega)]; rfl

/-! ## which writing begins which -/
def beginsB (x y : List Int) : Bool := decide (x.length ≤ y.length) && decide (x = y.take x.length)
theorem begins_some {x y : List Int} (hx : bytes_ x) (hy : bytes_ y) : kilnlaw1_begins.f x y = some (beginsB x y) := by
  unfold kilnlaw1_begins.f beginsB
  by_cases h : x.length ≤ y.length
  · rw [if_pos (by omega), if_pos (by omega), Int.toNat_natCast, same_some hx (bytes_take hy _)]
    simp [h]
  · rw [if_neg (by omega)]; simp [h]
theorem begins_iff {x y : List Int} : beginsB x y = true ↔ ∃ z, y = x ++ z := by
  unfold beginsB
  rw [Bool.and_eq_true, decide_eq_true_iff, decide_eq_true_iff]
  constructor
  · rintro ⟨_, h⟩; exact ⟨y.drop x.length, by conv => lhs; rw [← List.take_append_drop x.length y]; rw [← h]⟩
  · rintro ⟨z, rfl⟩; simp
theorem uintL_inj {v w : Nat} {r s : List Int} (hv : v < 18446744073709551616) (hw : w < 18446744073709551616) (h : uintL v ++ r = uintL w ++ s) : v = w ∧ r = s := by
  have e1 := pU_uint v 0 r (by decide) hv (fun h => absurd h (by decide))
  have e2 := pU_uint w 0 s (by decide) hw (fun h => absurd h (by decide))
  rw [h, e2] at e1
  injection e1 with e _ _
  subst e
  exact ⟨rfl, List.append_cancel_left h⟩
theorem bytesL_inj {a b r s : List Int} (ha : a.length < 18446744073709551616) (hb : b.length < 18446744073709551616) (h : bytesL a ++ r = bytesL b ++ s) : a = b ∧ r = s := by
  unfold bytesL at h
  rw [List.append_assoc, List.append_assoc] at h
  obtain ⟨e, h⟩ := uintL_inj ha hb h
  exact List.append_inj h e

def Unlike : Prop := ∀ (a0 a1 : Int) (l2 l3 : List Int), (Lit.int .u64 a0).wf = true → (Lit.int .u64 a1).wf = true → l2.length ≤ 140737488351232 → (∀ x ∈ l2, (Lit.int .u8 x).wf = true) → l3.length ≤ 140737488351232 → (∀ x ∈ l3, (Lit.int .u8 x).wf = true) →
  ∃ k, kilnlaw1_WireUnlike.f k a0 a1 l2 l3 = some true

theorem unlike : Unlike := by
  intro a0 a1 l2 l3 h0 h1 n2 h2 n3 h3
  obtain ⟨h0, h0'⟩ := u64_wf h0
  obtain ⟨h1, h1'⟩ := u64_wf h1
  have b2 := bytes_wf h2
  have b3 := bytes_wf h3
  obtain ⟨v, rfl⟩ := Int.eq_ofNat_of_zero_le h0
  obtain ⟨w, rfl⟩ := Int.eq_ofNat_of_zero_le h1
  apply Ev.rounds
  unfold kilnlaw1_WireUnlike.f
  have rest : Ev (fun k => kilnlaw1_WireUnlike.j0 k l2 l3 false) true := by
    refine Ev.step (fun k => by simp only [kilnlaw1_WireUnlike.j0]; rw [if_neg (by decide)]) ?_
    refine Ev.bind (bytes_ev (by omega)) (Ev.bind (bytes_ev (by omega)) (Ev.bind started_ev (Ev.pos rfl (Ev.const ?_))))
    rw [same_some b2 b3, same_some (bytesL_ok b2) (bytesL_ok b3), begins_some (bytesL_ok b2) (bytesL_ok b3), begins_some (bytesL_ok b3) (bytesL_ok b2)]
    simp only [Option.bind_some]
    by_cases e : l2 = l3
    · subst e; simp
    · have hne : ¬ bytesL l2 = bytesL l3 := fun h => e (bytesL_inj (r := []) (s := []) (by omega) (by omega) (by rw [List.append_nil, List.append_nil]; exact h)).1
      have hb1 : beginsB (bytesL l2) (bytesL l3) = false := by
        rw [Bool.eq_false_iff]; intro h
        obtain ⟨z, hz⟩ := begins_iff.1 h
        exact e (bytesL_inj (r := []) (s := z) (by omega) (by omega) (by rw [List.append_nil]; exact hz)).1.symm
      have hb2 : beginsB (bytesL l3) (bytesL l2) = false := by
        rw [Bool.eq_false_iff]; intro h
        obtain ⟨z, hz⟩ := begins_iff.1 h
        exact e (bytesL_inj (r := []) (s := z) (by omega) (by omega) (by rw [List.append_nil]; exact hz)).1
      simp [e, hne, hb1, hb2]
  refine Ev.bind (uint_ev h0 h0') (Ev.bind (uint_ev h1 h1') ?_)
  rw [Int.toNat_natCast, Int.toNat_natCast]
  have b0 := bytes_uint v
  have b1 := bytes_uint w
  refine Ev.bind (Ev.const (same_some b0 b1)) ?_
  by_cases e : v = w
  · subst e
    refine Ev.neg (by simp) (Ev.pos rfl rest)
  · have hne : ¬ uintL v = uintL w := fun h => e (uintL_inj (r := []) (s := []) (by omega) (by omega) (by rw [List.append_nil, List.append_nil]; exact h)).1
    have hb1 : beginsB (uintL v) (uintL w) = false := by
      rw [Bool.eq_false_iff]; intro h
      obtain ⟨z, hz⟩ := begins_iff.1 h
      exact e (uintL_inj (r := []) (s := z) (by omega) (by omega) (by rw [List.append_nil]; exact hz)).1.symm
    have hb2 : beginsB (uintL w) (uintL v) = false := by
      rw [Bool.eq_false_iff]; intro h
      obtain ⟨z, hz⟩ := begins_iff.1 h
      exact e (uintL_inj (r := []) (s := z) (by omega) (by omega) (by rw [List.append_nil]; exact hz)).1
    have hi : ¬ (v : Int) = w := by omega
    refine Ev.neg (by simp [e, hne]; omega) (Ev.neg hi ?_)
    refine Ev.bind (Ev.const (begins_some b0 b1)) (Ev.neg (by simp [hb1]) (Ev.bind (Ev.const (begins_some b1 b0)) ?_))
    rw [hb2]; exact rest
end Go.Proofs.YthmnomdjpbfefaaDoor.A
