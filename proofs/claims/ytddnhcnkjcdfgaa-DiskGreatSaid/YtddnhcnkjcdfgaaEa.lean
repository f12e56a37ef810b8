-- kilnlaw3.mark (printed); what is written of it
import Derived.Test.YtddnhcnkjcdfgaaDn
namespace Go.Proofs.Ytddnhcnkjcdfgaa.P
open Go.RowKit Go.Proofs.YtddnhcnkjcdfgaaW.PrintWords Go.Proofs.YtddnhcnkjcdfgaaW.PrintLast Go.Proofs.YtddnhcnkjcdfgaaW.PrintMore
attribute [local go_sem] max2_int min2_int max_two min_two max_three min_three max_four min_four
set_option linter.unusedVariables false
set_option linter.unusedSimpArgs false
/-! ### kilnlaw3_mark: function 31 -/
def kilnlaw3_mark.f (a0 : Int) (a1 : Int) : Option (List Int) := if 512 ≤ 281474976710656 then ((some (List.replicate 512 0 : List Int)).bind fun y264 => (if 0 < (y264.length : Int) then (if 1 < (y264.length : Int) then (if 2 < (y264.length : Int) then (if 3 < (y264.length : Int) then (if 511 < (y264.length : Int) then (some (((((y264.set (0 : Int).toNat ((a0) % 256)).set (1 : Int).toNat ((wrap64 (Int.tdiv a0 256)) % 256)).set (2 : Int).toNat ((a1) % 256)).set (3 : Int).toNat ((wrap64 (Int.tdiv a1 256)) % 256)).set (511 : Int).toNat ((wrap64 (1 + (Int.tmod a0 7))) % 256))) else (none)) else (none)) else (none)) else (none)) else (none))) else (none)
set_option maxHeartbeats 8000000 in
set_option maxRecDepth 100000 in
theorem kilnlaw3_mark.calls (a0 : Int) (a1 : Int) (r : List Int) (w : World) (h : kilnlaw3_mark.f a0 a1 = some r) :
    Calls Try.prog 31 #[.int .i64 a0, .int .i64 a1] w fun e w' => ∃ v0_ : Value, e = .returned (v0_) ∧ Kd.R (Kd.int .u8) 5 w' w.heap.size (fun _ => True) v0_ r ∧ Below w.heap.size w w' := by
  have HB := Aside0.mk (Below.refl w.heap.size w)
  have H : (if 512 ≤ 281474976710656 then ((some (List.replicate 512 0 : List Int)).bind fun y264 => (if 0 < (y264.length : Int) then (if 1 < (y264.length : Int) then (if 2 < (y264.length : Int) then (if 3 < (y264.length : Int) then (if 511 < (y264.length : Int) then (some (((((y264.set (0 : Int).toNat ((a0) % 256)).set (1 : Int).toNat ((wrap64 (Int.tdiv a0 256)) % 256)).set (2 : Int).toNat ((a1) % 256)).set (3 : Int).toNat ((wrap64 (Int.tdiv a1 256)) % 256)).set (511 : Int).toNat ((wrap64 (1 + (Int.tmod a0 7))) % 256))) else (none)) else (none)) else (none)) else (none)) else (none))) else (none)) = some r := h
  clear h
  by_cases c3 : 512 ≤ 281474976710656
  · rw [if_pos c3] at H
    have c3b0 := eq_true c3
    have c3b1 : decide (512 ≤ 281474976710656) = true := decide_eq_true c3
    clear c3
    obtain ⟨y264, hy264⟩ : ∃ y_ : List Int, y_ = (List.replicate 512 0) := ⟨_, rfl⟩
    replace H : (if 0 < (y264.length : Int) then (if 1 < (y264.length : Int) then (if 2 < (y264.length : Int) then (if 3 < (y264.length : Int) then (if 511 < (y264.length : Int) then (some (((((y264.set (0 : Int).toNat ((a0) % 256)).set (1 : Int).toNat ((wrap64 (Int.tdiv a0 256)) % 256)).set (2 : Int).toNat ((a1) % 256)).set (3 : Int).toNat ((wrap64 (Int.tdiv a1 256)) % 256)).set (511 : Int).toNat ((wrap64 (1 + (Int.tmod a0 7))) % 256))) else (none)) else (none)) else (none)) else (none)) else (none)) = some r := by first | (rw [hy264]; with_reducible exact H) | (have H2_ := (Option.bind_some _ _).symm.trans H; rw [hy264]; with_reducible exact H2_) | (have H2_ := (Option.bind_some _ _).symm.trans H; with_reducible exact H2_) | with_reducible exact H | (rw [hy264]; exact H) | exact H
    have Ny264 := Aside0.mk hy264
    clear hy264
    by_cases c4 : 0 < (y264.length : Int)
    · rw [if_pos c4] at H
      have c4b0 : decide (0 < (y264.length : Int)) = true := decide_eq_true c4
      have c4b1 : decide (0 < y264.length) = true := decide_eq_true (by omega)
      clear c4
      obtain ⟨y267, hy267⟩ : ∃ y_ : List Int, y_ = (y264.set (0 : Int).toNat ((a0) % 256)) := ⟨_, rfl⟩
      replace H : (if 1 < (y264.length : Int) then (if 2 < (y264.length : Int) then (if 3 < (y264.length : Int) then (if 511 < (y264.length : Int) then (some ((((y267.set (1 : Int).toNat ((wrap64 (Int.tdiv a0 256)) % 256)).set (2 : Int).toNat ((a1) % 256)).set (3 : Int).toNat ((wrap64 (Int.tdiv a1 256)) % 256)).set (511 : Int).toNat ((wrap64 (1 + (Int.tmod a0 7))) % 256))) else (none)) else (none)) else (none)) else (none)) = some r := by first | (rw [hy267]; with_reducible exact H) | (have H2_ := (Option.bind_some _ _).symm.trans H; rw [hy267]; with_reducible exact H2_) | (have H2_ := (Option.bind_some _ _).symm.trans H; with_reducible exact H2_) | with_reducible exact H | (rw [hy267]; exact H) | exact H
      have Ny267 := Aside0.mk hy267
      clear hy267
      by_cases c6 : 1 < (y264.length : Int)
      · rw [if_pos c6] at H
        have c6b0 : decide (1 < (y264.length : Int)) = true := decide_eq_true c6
        have c6b1 : decide (1 < y264.length) = true := decide_eq_true (by omega)
        clear c6
        obtain ⟨y268, hy268⟩ : ∃ y_ : List Int, y_ = (y267.set (1 : Int).toNat ((wrap64 (Int.tdiv a0 256)) % 256)) := ⟨_, rfl⟩
        replace H : (if 2 < (y264.length : Int) then (if 3 < (y264.length : Int) then (if 511 < (y264.length : Int) then (some (((y268.set (2 : Int).toNat ((a1) % 256)).set (3 : Int).toNat ((wrap64 (Int.tdiv a1 256)) % 256)).set (511 : Int).toNat ((wrap64 (1 + (Int.tmod a0 7))) % 256))) else (none)) else (none)) else (none)) = some r := by first | (rw [hy268]; with_reducible exact H) | (have H2_ := (Option.bind_some _ _).symm.trans H; rw [hy268]; with_reducible exact H2_) | (have H2_ := (Option.bind_some _ _).symm.trans H; with_reducible exact H2_) | with_reducible exact H | (rw [hy268]; exact H) | exact H
        have Ny268 := Aside0.mk hy268
        clear hy268
        by_cases c8 : 2 < (y264.length : Int)
        · rw [if_pos c8] at H
          have c8b0 : decide (2 < (y264.length : Int)) = true := decide_eq_true c8
          have c8b1 : decide (2 < y264.length) = true := decide_eq_true (by omega)
          clear c8
          obtain ⟨y269, hy269⟩ : ∃ y_ : List Int, y_ = (y268.set (2 : Int).toNat ((a1) % 256)) := ⟨_, rfl⟩
          replace H : (if 3 < (y264.length : Int) then (if 511 < (y264.length : Int) then (some ((y269.set (3 : Int).toNat ((wrap64 (Int.tdiv a1 256)) % 256)).set (511 : Int).toNat ((wrap64 (1 + (Int.tmod a0 7))) % 256))) else (none)) else (none)) = some r := by first | (rw [hy269]; with_reducible exact H) | (have H2_ := (Option.bind_some _ _).symm.trans H; rw [hy269]; with_reducible exact H2_) | (have H2_ := (Option.bind_some _ _).symm.trans H; with_reducible exact H2_) | with_reducible exact H | (rw [hy269]; exact H) | exact H
          have Ny269 := Aside0.mk hy269
          clear hy269
          by_cases c10 : 3 < (y264.length : Int)
          · rw [if_pos c10] at H
            have c10b0 : decide (3 < (y264.length : Int)) = true := decide_eq_true c10
            have c10b1 : decide (3 < y264.length) = true := decide_eq_true (by omega)
            clear c10
            obtain ⟨y270, hy270⟩ : ∃ y_ : List Int, y_ = (y269.set (3 : Int).toNat ((wrap64 (Int.tdiv a1 256)) % 256)) := ⟨_, rfl⟩
            replace H : (if 511 < (y264.length : Int) then (some (y270.set (511 : Int).toNat ((wrap64 (1 + (Int.tmod a0 7))) % 256))) else (none)) = some r := by first | (rw [hy270]; with_reducible exact H) | (have H2_ := (Option.bind_some _ _).symm.trans H; rw [hy270]; with_reducible exact H2_) | (have H2_ := (Option.bind_some _ _).symm.trans H; with_reducible exact H2_) | with_reducible exact H | (rw [hy270]; exact H) | exact H
            have Ny270 := Aside0.mk hy270
            clear hy270
            by_cases c12 : 511 < (y264.length : Int)
            · rw [if_pos c12] at H
              have c12b0 : decide (511 < (y264.length : Int)) = true := decide_eq_true c12
              have c12b1 : decide (511 < y264.length) = true := decide_eq_true (by omega)
              clear c12
              obtain ⟨y271, hy271⟩ : ∃ y_ : List Int, y_ = (y270.set (511 : Int).toNat ((wrap64 (1 + (Int.tmod a0 7))) % 256)) := ⟨_, rfl⟩
              replace H : (some y271) = some r := by first | (rw [hy271]; with_reducible exact H) | (have H2_ := (Option.bind_some _ _).symm.trans H; rw [hy271]; with_reducible exact H2_) | (have H2_ := (Option.bind_some _ _).symm.trans H; with_reducible exact H2_) | with_reducible exact H | (rw [hy271]; exact H) | exact H
              have Ny271 := Aside0.mk hy271
              clear hy271
              obtain rfl := Option.some.inj H
              go_enter Try.func31, Try.ntmps31
              go_wp2_with (first | ((with_reducible refine gate_dst (N := 6) rfl ?_); refine Kd.R_make (Kd.int .u8) _ 5 rfl (N := 6) rfl 28 _ _ rfl 512 rfl rfl Try.underlying28 (.int .u8 0) 1 info5 rfl (by decide) (by omega) 0 (ok := fun _ => True) (okp := fun _ => True) rfl (fun _ hk => hk) trivial (by omega) (by omega) (Below.refl _ _) (Nat.le_refl _) ?_; intro v265 w14 ho15 hb hg_ hnew_; clear hg_ hnew_; (first | rw [← Ny264.out] at ho15 | (simp only [Int.reduceToNat] at ho15; rw [← Ny264.out] at ho15)); have n0_ := Aside0.mk (Kd.R_lower ho15 (below_size (by repeat (first | (with_reducible first | exact HB.out | apply below_alloc | apply pw_below_drewN | apply below_drew1) | exact HB.out)))); have n1_ := Aside0.mk (below_step (by repeat (first | (with_reducible first | exact HB.out | apply below_alloc | apply pw_below_drewN | apply below_drew1) | exact HB.out)) hb); clear HB; have HO266 := n0_; have HB := n1_; clear n0_ n1_; clear hb ho15; have p5 : 0 ≤ (0 : Int) := (by omega); have q5 : (0 : Int) < ((y264.length : Int) : Int) := of_decide_eq_true (by first | (with_reducible assumption) | assumption); have qi5 : (0 < y264.length) = True := eq_true (by omega); obtain ⟨go5, co5, eo5, gb5, gl5, cl5, HG5⟩ := Kd.R_form HO266.out (by omega); (first | cases eo5 | (injection eo5 with ea_ en_ ec_; (first | subst ea_ | (injection ea_ with ea_; subst ea_)); subst ec_; clear en_)); have GB5 := Aside0.mk gb5; have GG5 := Aside0.mk HG5; clear gb5 gl5 HG5; obtain ⟨hx5_0, hf5_0⟩ := Kd.R_celln 0 HO266.out (0 : Int) p5 q5; (try rw [show ((0 : Int)).toNat = 0 from rfl] at hx5_0); (try simp only [Nat.reduceMul, Nat.zero_mul, Nat.zero_add, Nat.reduceAdd] at hx5_0); (try rw [show ((0 : Int)).toNat = 0 from rfl] at hf5_0); (try simp only [Nat.reduceMul, Nat.zero_mul, Nat.zero_add, Nat.reduceAdd] at hf5_0); replace p5 := eq_true p5; replace q5 := eq_true q5; obtain ⟨hy16_, hz16_⟩ := Kd.R_celln 0 HO266.out (0 : Int) (by omega) (of_decide_eq_true (by first | (with_reducible assumption) | assumption)); (try simp only [Int.reduceToNat, Int.toNat_zero, Int.toNat_ofNat, Nat.reduceMul, Nat.zero_mul, Nat.zero_add] at hy16_ hz16_); (try rw [show ((0 : Int)).toNat = 0 from rfl] at hy16_); (try rw [show ((0 : Int)).toNat = 0 from rfl] at hz16_); have HP16 := Kd.R_putg HO266.out (0 : Int) ((a0) % 256)) | ((with_reducible refine gate_store (t := 5) (p := 10) rfl ?_); refine store_event (t := 5) (p := 10) (v := ?vo_w17) (w1 := (w14.setCell ⟨go5, (0 : Int).toNat, none⟩ (.int .u8 ((a0) % 256)))) ?hg ?ho ?hn ?hr ?_; (case ho => rfl); (case hg => rfl); (case hn => rfl); (case hr => first | (go_simp; done) | (go_simp; rfl)); intro w17 hw; have hg : w14.grownBy w17 (some go5) := (by rw [hw]; exact HP16.2); have hp_ : Kd.R (Kd.int .u8) 5 w17 w.heap.size (fun _ => True) (.slice (some ⟨go5, 0, none⟩) y264.length co5) y267 := (by rw [hw, Ny267.out]; exact HP16.1); clear HP16; have n0_ := Aside0.mk (hp_); have n1_ := Aside0.mk ((by rw [hw]; exact below_set (HB.out) GB5.out : Below w.heap.size w w17)); clear HO266; clear HB; have HO266 := n0_; have HB := n1_; clear n0_ n1_; clear hg hw hp_; have p7 : 0 ≤ (1 : Int) := (by omega); have q7 : (1 : Int) < ((y264.length : Int) : Int) := of_decide_eq_true (by first | (with_reducible assumption) | assumption); have qi7 : (1 < y264.length) = True := eq_true (by omega); obtain ⟨hx7_0, hf7_0⟩ := Kd.R_celln 0 HO266.out (1 : Int) p7 q7; (try rw [show ((1 : Int)).toNat = 1 from rfl] at hx7_0); (try simp only [Nat.reduceMul, Nat.zero_mul, Nat.zero_add, Nat.reduceAdd] at hx7_0); (try rw [show ((1 : Int)).toNat = 1 from rfl] at hf7_0); (try simp only [Nat.reduceMul, Nat.zero_mul, Nat.zero_add, Nat.reduceAdd] at hf7_0); replace p7 := eq_true p7; replace q7 := eq_true q7; obtain ⟨hy18_, hz18_⟩ := Kd.R_celln 0 HO266.out (1 : Int) (by omega) (of_decide_eq_true (by first | (with_reducible assumption) | assumption)); (try simp only [Int.reduceToNat, Int.toNat_zero, Int.toNat_ofNat, Nat.reduceMul, Nat.zero_mul, Nat.zero_add] at hy18_ hz18_); (try rw [show ((1 : Int)).toNat = 1 from rfl] at hy18_); (try rw [show ((1 : Int)).toNat = 1 from rfl] at hz18_); have HP18 := Kd.R_putg HO266.out (1 : Int) ((wrap64 (Int.tdiv a0 256)) % 256)) | ((with_reducible refine gate_store (t := 5) (p := 15) rfl ?_); refine store_event (t := 5) (p := 15) (v := ?vo_w19) (w1 := (w17.setCell ⟨go5, (1 : Int).toNat, none⟩ (.int .u8 ((wrap64 (Int.tdiv a0 256)) % 256)))) ?hg ?ho ?hn ?hr ?_; (case ho => rfl); (case hg => rfl); (case hn => rfl); (case hr => first | (go_simp; done) | (go_simp; rfl)); intro w19 hw; have hg : w17.grownBy w19 (some go5) := (by rw [hw]; exact HP18.2); have hp_ : Kd.R (Kd.int .u8) 5 w19 w.heap.size (fun _ => True) (.slice (some ⟨go5, 0, none⟩) y264.length co5) y268 := (by rw [hw, Ny268.out]; exact HP18.1); clear HP18; have n0_ := Aside0.mk (hp_); have n1_ := Aside0.mk ((by rw [hw]; exact below_set (HB.out) GB5.out : Below w.heap.size w w19)); clear HO266; clear HB; have HO266 := n0_; have HB := n1_; clear n0_ n1_; clear hg hw hp_; have p9 : 0 ≤ (2 : Int) := (by omega); have q9 : (2 : Int) < ((y264.length : Int) : Int) := of_decide_eq_true (by first | (with_reducible assumption) | assumption); have qi9 : (2 < y264.length) = True := eq_true (by omega); obtain ⟨hx9_0, hf9_0⟩ := Kd.R_celln 0 HO266.out (2 : Int) p9 q9; (try rw [show ((2 : Int)).toNat = 2 from rfl] at hx9_0); (try simp only [Nat.reduceMul, Nat.zero_mul, Nat.zero_add, Nat.reduceAdd] at hx9_0); (try rw [show ((2 : Int)).toNat = 2 from rfl] at hf9_0); (try simp only [Nat.reduceMul, Nat.zero_mul, Nat.zero_add, Nat.reduceAdd] at hf9_0); replace p9 := eq_true p9; replace q9 := eq_true q9; obtain ⟨hy20_, hz20_⟩ := Kd.R_celln 0 HO266.out (2 : Int) (by omega) (of_decide_eq_true (by first | (with_reducible assumption) | assumption)); (try simp only [Int.reduceToNat, Int.toNat_zero, Int.toNat_ofNat, Nat.reduceMul, Nat.zero_mul, Nat.zero_add] at hy20_ hz20_); (try rw [show ((2 : Int)).toNat = 2 from rfl] at hy20_); (try rw [show ((2 : Int)).toNat = 2 from rfl] at hz20_); have HP20 := Kd.R_putg HO266.out (2 : Int) ((a1) % 256)) | ((with_reducible refine gate_store (t := 5) (p := 19) rfl ?_); refine store_event (t := 5) (p := 19) (v := ?vo_w21) (w1 := (w19.setCell ⟨go5, (2 : Int).toNat, none⟩ (.int .u8 ((a1) % 256)))) ?hg ?ho ?hn ?hr ?_; (case ho => rfl); (case hg => rfl); (case hn => rfl); (case hr => first | (go_simp; done) | (go_simp; rfl)); intro w21 hw; have hg : w19.grownBy w21 (some go5) := (by rw [hw]; exact HP20.2); have hp_ : Kd.R (Kd.int .u8) 5 w21 w.heap.size (fun _ => True) (.slice (some ⟨go5, 0, none⟩) y264.length co5) y269 := (by rw [hw, Ny269.out]; exact HP20.1); clear HP20; have n0_ := Aside0.mk (hp_); have n1_ := Aside0.mk ((by rw [hw]; exact below_set (HB.out) GB5.out : Below w.heap.size w w21)); clear HO266; clear HB; have HO266 := n0_; have HB := n1_; clear n0_ n1_; clear hg hw hp_; have p11 : 0 ≤ (3 : Int) := (by omega); have q11 : (3 : Int) < ((y264.length : Int) : Int) := of_decide_eq_true (by first | (with_reducible assumption) | assumption); have qi11 : (3 < y264.length) = True := eq_true (by omega); obtain ⟨hx11_0, hf11_0⟩ := Kd.R_celln 0 HO266.out (3 : Int) p11 q11; (try rw [show ((3 : Int)).toNat = 3 from rfl] at hx11_0); (try simp only [Nat.reduceMul, Nat.zero_mul, Nat.zero_add, Nat.reduceAdd] at hx11_0); (try rw [show ((3 : Int)).toNat = 3 from rfl] at hf11_0); (try simp only [Nat.reduceMul, Nat.zero_mul, Nat.zero_add, Nat.reduceAdd] at hf11_0); replace p11 := eq_true p11; replace q11 := eq_true q11; obtain ⟨hy22_, hz22_⟩ := Kd.R_celln 0 HO266.out (3 : Int) (by omega) (of_decide_eq_true (by first | (with_reducible assumption) | assumption)); (try simp only [Int.reduceToNat, Int.toNat_zero, Int.toNat_ofNat, Nat.reduceMul, Nat.zero_mul, Nat.zero_add] at hy22_ hz22_); (try rw [show ((3 : Int)).toNat = 3 from rfl] at hy22_); (try rw [show ((3 : Int)).toNat = 3 from rfl] at hz22_); have HP22 := Kd.R_putg HO266.out (3 : Int) ((wrap64 (Int.tdiv a1 256)) % 256)) | ((with_reducible refine gate_store (t := 5) (p := 24) rfl ?_); refine store_event (t := 5) (p := 24) (v := ?vo_w23) (w1 := (w21.setCell ⟨go5, (3 : Int).toNat, none⟩ (.int .u8 ((wrap64 (Int.tdiv a1 256)) % 256)))) ?hg ?ho ?hn ?hr ?_; (case ho => rfl); (case hg => rfl); (case hn => rfl); (case hr => first | (go_simp; done) | (go_simp; rfl)); intro w23 hw; have hg : w21.grownBy w23 (some go5) := (by rw [hw]; exact HP22.2); have hp_ : Kd.R (Kd.int .u8) 5 w23 w.heap.size (fun _ => True) (.slice (some ⟨go5, 0, none⟩) y264.length co5) y270 := (by rw [hw, Ny270.out]; exact HP22.1); clear HP22; have n0_ := Aside0.mk (hp_); have n1_ := Aside0.mk ((by rw [hw]; exact below_set (HB.out) GB5.out : Below w.heap.size w w23)); clear HO266; clear HB; have HO266 := n0_; have HB := n1_; clear n0_ n1_; clear hg hw hp_; have p13 : 0 ≤ (511 : Int) := (by omega); have q13 : (511 : Int) < ((y264.length : Int) : Int) := of_decide_eq_true (by first | (with_reducible assumption) | assumption); have qi13 : (511 < y264.length) = True := eq_true (by omega); obtain ⟨hx13_0, hf13_0⟩ := Kd.R_celln 0 HO266.out (511 : Int) p13 q13; (try rw [show ((511 : Int)).toNat = 511 from rfl] at hx13_0); (try simp only [Nat.reduceMul, Nat.zero_mul, Nat.zero_add, Nat.reduceAdd] at hx13_0); (try rw [show ((511 : Int)).toNat = 511 from rfl] at hf13_0); (try simp only [Nat.reduceMul, Nat.zero_mul, Nat.zero_add, Nat.reduceAdd] at hf13_0); replace p13 := eq_true p13; replace q13 := eq_true q13; obtain ⟨hy24_, hz24_⟩ := Kd.R_celln 0 HO266.out (511 : Int) (by omega) (of_decide_eq_true (by first | (with_reducible assumption) | assumption)); (try simp only [Int.reduceToNat, Int.toNat_zero, Int.toNat_ofNat, Nat.reduceMul, Nat.zero_mul, Nat.zero_add] at hy24_ hz24_); (try rw [show ((511 : Int)).toNat = 511 from rfl] at hy24_); (try rw [show ((511 : Int)).toNat = 511 from rfl] at hz24_); have HP24 := Kd.R_putg HO266.out (511 : Int) ((wrap64 (1 + (Int.tmod a0 7))) % 256)) | ((with_reducible refine gate_store (t := 5) (p := 30) rfl ?_); refine store_event (t := 5) (p := 30) (v := ?vo_w25) (w1 := (w23.setCell ⟨go5, (511 : Int).toNat, none⟩ (.int .u8 ((wrap64 (1 + (Int.tmod a0 7))) % 256)))) ?hg ?ho ?hn ?hr ?_; (case ho => rfl); (case hg => rfl); (case hn => rfl); (case hr => first | (go_simp; done) | (go_simp; rfl)); intro w25 hw; have hg : w23.grownBy w25 (some go5) := (by rw [hw]; exact HP24.2); have hp_ : Kd.R (Kd.int .u8) 5 w25 w.heap.size (fun _ => True) (.slice (some ⟨go5, 0, none⟩) y264.length co5) y271 := (by rw [hw, Ny271.out]; exact HP24.1); clear HP24; have n0_ := Aside0.mk (hp_); have n1_ := Aside0.mk ((by rw [hw]; exact below_set (HB.out) GB5.out : Below w.heap.size w w25)); clear HO266; clear HB; have HO266 := n0_; have HB := n1_; clear n0_ n1_; clear hg hw hp_))
              go_ret
              exact ⟨_, by first | rfl | (simp [errW_none, errW_some] <;> rfl) | (simp [*, errW_none, errW_some] <;> rfl), by (with_reducible repeat (first | apply Kd.R_alloc | apply Kd.R_drewN | apply Kd.R_drew)); exact HO266.out, by repeat (first | (with_reducible first | exact HB.out | apply below_alloc | apply pw_below_drewN | apply below_drew1) | exact HB.out)⟩
            · rw [if_neg c12] at H
              exact absurd H (by simp)
          · rw [if_neg c10] at H
            exact absurd H (by simp)
        · rw [if_neg c8] at H
          exact absurd H (by simp)
      · rw [if_neg c6] at H
        exact absurd H (by simp)
    · rw [if_neg c4] at H
      exact absurd H (by simp)
  · rw [if_neg c3] at H
    exact absurd H (by simp)


end Go.Proofs.Ytddnhcnkjcdfgaa.P
namespace Go.Proofs.Ytddnhcnkjcdfgaa.M
open Go.RowKit Go.Maps Go.Proofs.YtddnhcnkjcdfgaaW.PrintWords Go.Proofs.YtddnhcnkjcdfgaaW.PrintLast Go.Proofs.YtddnhcnkjcdfgaaW.PrintMore
open Go.Proofs.Ytddnhcnkjcdfgaa.P
def markL (i j : Int) : List Int := (kilnlaw3_mark.f i j).getD []
theorem mark_ok (i j : Int) : kilnlaw3_mark.f i j = some (markL i j) ∧ (markL i j).length = 512 := by
  have h : ∃ l, kilnlaw3_mark.f i j = some l ∧ l.length = 512 := by
    unfold kilnlaw3_mark.f
    rw [if_pos (by decide), Option.bind_some, List.length_replicate, if_pos (by decide), if_pos (by decide), if_pos (by decide), if_pos (by decide), if_pos (by decide)]
    exact ⟨_, rfl, by simp only [List.length_set, List.length_replicate]⟩
  obtain ⟨l, h1, h2⟩ := h
  have h3 : markL i j = l := by unfold markL; rw [h1]; rfl
  rw [h3]
  exact ⟨h1, h2⟩
end Go.Proofs.Ytddnhcnkjcdfgaa.M
