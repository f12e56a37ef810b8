/- The keys of 32768 bits are apart: eight classes, each reckoned by the kernel. -/
import Derived.Test.YthmnomdjpbfefaaDoorN
namespace Go.Proofs.YthmnomdjpbfefaaDoor.Crc
set_option maxRecDepth 1000000
theorem cls0 : apart 28 3 (keysIf 0 32768 1) = true := by decide +kernel
theorem cls1 : apart 28 3 (keysIf 1 32768 1) = true := by decide +kernel
theorem cls2 : apart 28 3 (keysIf 2 32768 1) = true := by decide +kernel
theorem cls3 : apart 28 3 (keysIf 3 32768 1) = true := by decide +kernel
theorem cls4 : apart 28 3 (keysIf 4 32768 1) = true := by decide +kernel
theorem cls5 : apart 28 3 (keysIf 5 32768 1) = true := by decide +kernel
theorem cls6 : apart 28 3 (keysIf 6 32768 1) = true := by decide +kernel
theorem cls7 : apart 28 3 (keysIf 7 32768 1) = true := by decide +kernel
theorem nodup_classes {l : List Nat} (h : ∀ w, w < 8 → (l.filter fun x => Nat.beq (Nat.land x 7) w).Nodup) : l.Nodup := by
  induction l with
  | nil => exact List.nodup_nil
  | cons x l ih =>
    refine List.nodup_cons.2 ⟨fun hx => ?_, ih fun w hw => ?_⟩
    · have hw : Nat.land x 7 < 8 := by
        have : Nat.land x 7 = x % 8 := Nat.and_two_pow_sub_one_eq_mod x 3
        omega
      have h1 := h _ hw
      have hb : Nat.beq (Nat.land x 7) (Nat.land x 7) = true := Nat.beq_refl _
      rw [List.filter_cons, if_pos hb] at h1
      exact (List.nodup_cons.1 h1).1 (List.mem_filter.2 ⟨hx, hb⟩)
    · have h1 := h w hw
      rw [List.filter_cons] at h1
      split at h1
      · exact (List.nodup_cons.1 h1).2
      · exact h1
theorem keys_nodup : (keys 32768 1).Nodup := by
  refine nodup_classes fun w hw => ?_
  rw [← keysIf_eq]
  have : w = 0 ∨ w = 1 ∨ w = 2 ∨ w = 3 ∨ w = 4 ∨ w = 5 ∨ w = 6 ∨ w = 7 := by omega
  rcases this with rfl | rfl | rfl | rfl | rfl | rfl | rfl | rfl
  · exact apart_nodup _ _ _ cls0
  · exact apart_nodup _ _ _ cls1
  · exact apart_nodup _ _ _ cls2
  · exact apart_nodup _ _ _ cls3
  · exact apart_nodup _ _ _ cls4
  · exact apart_nodup _ _ _ cls5
  · exact apart_nodup _ _ _ cls6
  · exact apart_nodup _ _ _ cls7
theorem all_apart : Apart := by
  intro d1 d2 h1 h2 h
  have g1 := keys_get 32768 1 d1 h1
  have g2 := keys_get 32768 1 d2 h2
  rw [h, ← g2] at g1
  have hl : d1 < (keys 32768 1).length := by
    rw [g2] at g1
    exact (List.getElem?_eq_some_iff.1 g1).1
  exact (List.getElem?_inj hl keys_nodup).1 g1
end Go.Proofs.YthmnomdjpbfefaaDoor.Crc
