-- written by programs of this session
import Derived.Test.YthmnomdjpbfefaaDoorZB
import Derived.Test.YthmnomdjpbfefaaDoorZPx5
import Derived.Test.YthmnomdjpbfefaaDoorZPx6
import Derived.Lib.Strings
namespace Go.Proofs.YthmnomdjpbfefaaDoor.A
open Go.RowKit Go.Proofs.YthmnomdjpbfefaaDoorW.PrintWords Go.Proofs.YthmnomdjpbfefaaDoorW.PrintLast Go.Proofs.YthmnomdjpbfefaaDoorW.PrintMore Go.Proofs.YthmnomdjpbfefaaDoor.P
set_option linter.unusedVariables false
set_option linter.unusedSimpArgs false
theorem started_ev : Ev (fun k => kilnlaw1_started.f k) true := Ev.of kilnlaw1_started.mono (k := 40) (by decide +kernel)
theorem strOfNums_toList (l : List Int) : (strOfNums l).toList = l.map fun n => UInt8.ofNat n.toNat := by
  rw [ByteArray.toList_eq]; simp [strOfNums]
theorem bytes_inj : ∀ (l m : List Int), bytes_ l → bytes_ m → (l.map fun n => UInt8.ofNat n.toNat) = (m.map fun n => UInt8.ofNat n.toNat) → l = m
  | [], [], _, _, _ => rfl
  | [], _ :: _, _, _, h => by simp at h
  | _ :: _, [], _, _, h => by simp at h
  | a :: l, b :: m, hl, hm, h => by
    simp only [List.map_cons, List.cons.injEq] at h
    have ha := hl a (List.mem_cons_self ..)
    have hb := hm b (List.mem_cons_self ..)
    have h1 := congrArg UInt8.toNat h.1
    simp only [UInt8.toNat_ofNat'] at h1
    rw [bytes_inj l m (fun x hx => hl x (List.mem_cons_of_mem _ hx)) (fun x hx => hm x (List.mem_cons_of_mem _ hx)) h.2]
    congr 1; omega
theorem same_some {l m : List Int} (hl : bytes_ l) (hm : bytes_ m) : kilnlaw1_same.f l m = some (decide (l = m)) := by
  unfold kilnlaw1_same.f
  rw [strOfNums_toList, strOfNums_toList]
  congr 1
  by_cases h : l = m
  · subst h; simp
  · have : ¬ ((l.map fun n => UInt8.ofNat n.toNat) = (m.map fun n => UInt8.ofNat n.toNat)) := fun e => h (bytes_inj l m hl hm e)
    simp [this, h]
theorem bytes_take {l : List Int} (h : bytes_ l) (n : Nat) : bytes_ (l.take n) := fun x hx => h x (List.mem_of_mem_take hx)
theorem bytes_drop {l : List Int} (h : bytes_ l) (n : Nat) : bytes_ (l.drop n) := fun x hx => h x (List.mem_of_mem_drop hx)
theorem bytes_append {l m : List Int} (h : bytes_ l) (h' : bytes_ m) : bytes_ (l ++ m) := fun x hx => (List.mem_append.1 hx).elim (h x) (h' x)
theorem bytes_uint (v : Nat) : bytes_ (uintL v) := uintL_byte v
theorem bytes_nil : bytes_ [] := fun x hx => by cases hx
theorem bytes_wf {l : List Int} (h : ∀ x ∈ l, (Lit.int .u8 x).wf = true) : bytes_ l := fun x hx => by
  have := h x hx
  simp [Lit.wf, IntKind.min, IntKind.max, IntKind.signed, IntKind.bits] at this
  omega
theorem u64_wf {x : Int} (h : (Lit.int .u64 x).wf = true) : 0 ≤ x ∧ x < 18446744073709551616 := by
  simp [Lit.wf, IntKind.min, IntKind.max, IntKind.signed, IntKind.bits] at h
  omega
def bytesL (l : List Int) : List Int := uintL l.length ++ l
theorem bytesL_ok {l : List Int} (h : bytes_ l) : bytes_ (bytesL l) := bytes_append (bytes_uint _) h
theorem bytes_ev {l : List Int} (h : l.length ≤ 140737488351232) : Ev (fun k => wire_Bytes.f k l) (bytesL l) := by
  unfold wire_Bytes.f
  have hl := uintL_len10 (v := l.length) (by omega)
  refine Ev.bind (a := uintL l.length) ?_ (Ev.const ?_)
  · rw [u64w (by omega) (by omega)]
    exact uint_ev (by omega) (by omega)
  · rw [if_pos (by omega)]; rfl
end Go.Proofs.YthmnomdjpbfefaaDoor.A
