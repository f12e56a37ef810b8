-- written by programs of this session; what nothing here names is left out
import Derived.Test.YtagodmmpkapgnaaDoorPaZ1
import Derived.Lib.SlBytesConst
namespace Go.Proofs.YtagodmmpkapgnaaDoor.M
open Go.RowKit Go.Maps Go.Proofs.YtagodmmpkapgnaaDoorW.PrintWords Go.Proofs.YtagodmmpkapgnaaDoorW.PrintLast Go.Proofs.YtagodmmpkapgnaaDoorW.PrintMore Go.Proofs.YtagodmmpkapgnaaDoor.Wr Go.Proofs.YtagodmmpkapgnaaDoor.Pl Go.Proofs.YtagodmmpkapgnaaDoor.P Go.Proofs.YtagodmmpkapgnaaDoor.A
set_option linter.unusedVariables false
set_option linter.unusedSimpArgs false
open Go.Proofs.YtagodmmpkapgnaaDoor.Crc
theorem shr8j (v i : Nat) (hi : i ≤ 8) : shr .i64 (v : Int) (IntKind.u64.wrap (8 * IntKind.u64.wrap (i : Int))) = ((v / 256 ^ i : Nat) : Int) := by
  rw [u64w (x := (i : Int)) (by omega) (by omega), u64w (x := 8 * (i : Int)) (by omega) (by omega)]
  unfold shr
  rw [show (8 * (i : Int)).toNat = 8 * i by omega, Nat.min_eq_left (show 8 * i ≤ IntKind.i64.bits from by show 8 * i ≤ 64; omega), p256]
  simp
theorem fixed17_l0 (xs : List Int) (hx : xs.length ≤ 1000000) : ∀ (m v n i k : Nat), i + m = n → n ≤ 8 → m < k →
    kilnref17_fixed.l0 k (xs ++ fixL v i) (v : Int) (n : Int) (i : Int) = some (xs ++ fixL v n) := by
  intro m
  induction m with
  | zero =>
    intro v n i k h hn hk
    obtain ⟨k, rfl⟩ : ∃ q, k = q + 1 := ⟨k - 1, by omega⟩
    simp only [kilnref17_fixed.l0]
    rw [if_neg (by omega), show i = n by omega]
  | succ m ih =>
    intro v n i k h hn hk
    obtain ⟨k, rfl⟩ : ∃ q, k = q + 1 := ⟨k - 1, by omega⟩
    simp only [kilnref17_fixed.l0]
    rw [if_pos (by omega), if_pos (show 0 ≤ IntKind.u64.wrap (8 * IntKind.u64.wrap (i : Int)) by rw [u64w (x := (i : Int)) (by omega) (by omega), u64w (by omega) (by omega)]; omega), if_pos (by rw [List.length_append, fixL_len]; omega), shr8j v i (by omega), w64 (x := (i : Int) + 1) (by omega) (by omega)]
    have e : xs ++ fixL v i ++ [((v / 256 ^ i : Nat) : Int) % 256] = xs ++ fixL v (i + 1) := by
      rw [fixL_snoc, List.append_assoc]
      simp
    rw [e]
    exact ih v n (i + 1) k (by omega) hn (by omega)
theorem fixed17_f (xs : List Int) (hx : xs.length ≤ 1000000) (v n : Nat) (h8 : n ≤ 8) : kilnref17_fixed.f 9 xs (v : Int) (n : Int) = some (xs ++ fixL v n) := by
  unfold kilnref17_fixed.f
  have h := fixed17_l0 xs hx n v n 0 9 (Nat.zero_add _) h8 (by omega)
  rwa [show fixL v 0 = [] from rfl, List.append_nil] at h
theorem Sep.fix17 {w0 w : World} {L : List Th} {v : Value} {xs : List Int} (h : Sep w0 w (ownT (Kd.int .u8) 5 v xs :: L)) (hx : xs.length ≤ 1000000) (x : Int) (h0 : 0 ≤ x) (n : Nat) (h8 : n ≤ 8) :
    Calls Tryd.prog 67 #[v, .int .i64 x, .int .i64 (n : Int)] w fun e w' => ∃ v', e = .returned v' ∧ Sep w0 w' (ownT (Kd.int .u8) 5 v' (xs ++ fixL x.toNat n) :: L) := by
  obtain ⟨y, rfl⟩ : ∃ y : Nat, x = (y : Int) := ⟨x.toNat, by omega⟩
  rw [Int.toNat_natCast]
  obtain ⟨F, ⟨⟨base, h1⟩, h2⟩, h3, h4⟩ := h.open1
  refine (kilnref17_fixed.calls 9 F v xs (y : Int) (n : Int) _ { w with heap := #[] } w ⟨rfl, rfl, rfl, Nat.zero_le _, fun i hi => absurd hi (Nat.not_lt_zero _)⟩ (Kd.R_lower h1 (Nat.zero_le _)) (fixed17_f xs hx y n h8)).mono ?_
  rintro e w' ⟨v0, rfl, hr, hb, hk⟩
  exact ⟨v0, rfl, h4 (ownT (Kd.int .u8) 5 v0 _) w' (fun k => (F k ∨ w.heap.size ≤ k) ∧ k < w'.heap.size) ⟨⟨0, Kd.R_mono (Kd.R_bound hr) (fun k hk => ⟨hk.1, hk.2.2.1⟩)⟩, fun b hb => hb.2⟩ (fun b hb => hb.1) ⟨hb.os, hb.tape, hb.output, hk.1, fun b hlt hn => hk.2 b hlt hn⟩⟩
theorem Sep.fix17_4 {w0 w : World} {L : List Th} {v : Value} {xs : List Int} (h : Sep w0 w (ownT (Kd.int .u8) 5 v xs :: L)) (hx : xs.length ≤ 1000000) (x : Int) (h0 : 0 ≤ x) :
    Calls Tryd.prog 67 #[v, .int .i64 x, .int .i64 4] w fun e w' => ∃ v', e = .returned v' ∧ Sep w0 w' (ownT (Kd.int .u8) 5 v' (xs ++ fixL x.toNat 4) :: L) := h.fix17 hx x h0 4 (by decide)
theorem and1_bits (r : Nat) (h : r < 4294967296) : Go.bits .and .u32 (r : Int) 1 = ((r % 2 : Nat) : Int) := by
  have := u32_and_nat r 1 h (by decide)
  rw [show ((1 : Nat) : Int) = 1 from rfl] at this
  rw [this, Nat.and_one_is_mod]
theorem crc17_l1 (b : List Int) (x4 : Int) : ∀ (m : Nat) (r i : Nat), i + m = 8 → r < 4294967296 → ∀ {R : Int}, Ev (fun k => kilnref17_crc.l0 k b ((Sn m r : Nat) : Int) (wrap64 (x4 + 1))) R →
    Ev (fun k => kilnref17_crc.l1 k b (r : Int) x4 (i : Int)) R := by
  intro m
  induction m with
  | zero =>
    intro r i h hr R hR
    exact Ev.step (fun k => by simp only [kilnref17_crc.l1]; rw [if_neg (by omega)]; rfl) hR
  | succ m ih =>
    intro r i h hr R hR
    have e : ∀ k, kilnref17_crc.l1 (k + 1) b (r : Int) x4 (i : Int) = kilnref17_crc.l1 k b ((S r : Nat) : Int) x4 ((i + 1 : Nat) : Int) := by
      intro k
      simp only [kilnref17_crc.l1]
      rw [if_pos (by omega), w64 (by omega) (by omega), and1_bits r hr]
      rw [show (r : Int) / 2 = ((r / 2 : Nat) : Int) by omega, show (3988292384 : Int) = ((3988292384 : Nat) : Int) from rfl, xor_bits _ _ (by omega) (by decide)]
      unfold S
      by_cases h1 : r % 2 = 1
      · rw [if_pos (by omega), if_pos h1]; rfl
      · rw [if_neg (by omega), if_neg h1]; rfl
    exact Ev.step e (ih (S r) (i + 1) (by omega) (S_lt hr) hR)
theorem crc17_l0 (b : List Int) (hl : b.length ≤ 4611686018427387904) (hb : bytes_ b) : ∀ (m r i : Nat), i + m = b.length → r < 4294967296 →
    Ev (fun k => kilnref17_crc.l0 k b (r : Int) (i : Int)) ((sumB r (b.drop i) ^^^ 4294967295 : Nat) : Int) := by
  intro m
  induction m with
  | zero =>
    intro r i h hr
    refine Ev.step (fun k => by simp only [kilnref17_crc.l0]; rw [if_neg (by omega)]) (Ev.some_ ?_)
    rw [show i = b.length by omega, List.drop_length]
    show Go.bits .xor .u32 ((4294967295 : Nat) : Int) (r : Int) = _
    rw [xor_bits 4294967295 r (by decide) hr, Nat.xor_comm]
    rfl
  | succ m ih =>
    intro r i h hr
    refine Ev.step (fun k => by simp only [kilnref17_crc.l0]; rw [if_pos (by omega), if_pos (by omega)]) ?_
    obtain ⟨c, hd, hrd, hc⟩ := rd_drop (show i < b.length by omega)
    have hc := hb c hc
    rw [hrd, show c % 4294967296 = (((c % 4294967296).toNat : Nat) : Int) by omega, xor_bits _ _ hr (by omega)]
    rw [show (0 : Int) = ((0 : Nat) : Int) from rfl]
    refine crc17_l1 b (i : Int) 8 _ 0 rfl (xor_lt32 hr (by omega)) ?_
    rw [w64 (by omega) (by omega), show (i : Int) + 1 = ((i + 1 : Nat) : Int) by omega, ← bstep_S, hd]
    exact ih (bstep r c) (i + 1) (by omega) (bstep_lt hr c)
theorem crc17_f {b : List Int} (hl : b.length ≤ 4611686018427387904) (hb : bytes_ b) : ∃ k, kilnref17_crc.f k b = some ((crc b : Nat) : Int) := by
  obtain ⟨K, hK⟩ := crc17_l0 b hl hb b.length 4294967295 0 (Nat.zero_add _) (by decide)
  refine ⟨K, ?_⟩
  have h := hK K (Nat.le_refl _)
  rw [List.drop_zero] at h
  exact h
theorem Sep.crc17 {w0 w : World} {L : List Th} {A : Option Addr} {m c : Nat} {b : List Int} (h : Sep w0 w (ownT (Kd.int .u8) 5 (.slice A m c) b :: L)) (hb : bytes_ b) (hm : b.length = m) (hl : m ≤ 1000000) :
    Calls Tryd.prog 68 #[.slice A m c] w fun e w' => e = .returned (.int .u32 ((crc b : Nat) : Int)) ∧ Sep w0 w' (ownT (Kd.int .u8) 5 (.slice A m c) b :: L) := by
  subst hm
  obtain ⟨hC, hc⟩ := h.own_C
  obtain ⟨k, hk⟩ := crc17_f (by omega) hb
  refine (kilnref17_crc.calls k A c b _ w hC hc hk).mono ?_
  rintro e w' ⟨rfl, n, rfl⟩
  exact ⟨rfl, h.step (pw_below_drewN (Below.refl _ _) n)⟩
end Go.Proofs.YtagodmmpkapgnaaDoor.M

namespace Go.Proofs.YtagodmmpkapgnaaDoor.M
open Go.RowKit Go.Maps Go.Proofs.YtagodmmpkapgnaaDoorW.PrintWords Go.Proofs.YtagodmmpkapgnaaDoorW.PrintLast Go.Proofs.YtagodmmpkapgnaaDoorW.PrintMore Go.Proofs.YtagodmmpkapgnaaDoor.Wr Go.Proofs.YtagodmmpkapgnaaDoor.Pl Go.Proofs.YtagodmmpkapgnaaDoor.P Go.Proofs.YtagodmmpkapgnaaDoor.A
set_option linter.unusedVariables false
set_option linter.unusedSimpArgs false
def magicJ : List Int := [119, 111, 114, 107]
def magicK : Obj := .cells #[.int .u8 119, .int .u8 111, .int .u8 114, .int .u8 107] 5 (4, 5)
theorem magicJ_len : magicJ.length = 4 := rfl
theorem magic_C {w0 w : World} {L : List Th} {gc : Nat} (h : Sep w0 w (blkT gc magicK :: L)) : (Kd.int .u8).C w (some ⟨gc, 0, none⟩) 4 magicJ := C_const (n := 4) (ys := magicJ) h.blk rfl (by decide)
theorem fix_next (y i : Nat) : fixL y i ++ [(y : Int) / 2 ^ (8 * i) % 256] = fixL y (i + 1) := by
  rw [fixL_snoc, p256]
  simp
set_option maxHeartbeats 8000000 in
set_option maxRecDepth 100000 in
theorem Sep.fix17_k {w0 w : World} {L : List Th} {gc : Nat} (h : Sep w0 w (blkT gc magicK :: L)) (x : Int) (h0 : 0 ≤ x) :
    Calls Tryd.prog 67 #[.slice (some ⟨gc, 0, none⟩) 4 4, .int .i64 x, .int .i64 8] w fun e w' => ∃ v', e = .returned v' ∧ Sep w0 w' (ownT (Kd.int .u8) 5 v' (magicJ ++ fixL x.toNat 8) :: L) := by
  obtain ⟨y, rfl⟩ : ∃ y : Nat, x = (y : Int) := ⟨x.toNat, by omega⟩
  rw [Int.toNat_natCast]
  have HS0 := Aside0.mk h
  clear h h0
  have HML := Aside0.mk magicJ_len
  have HMC := Aside0.mk (fun W (h : Sep w0 W (blkT gc magicK :: L)) => magic_C h)
  generalize magicJ = mj at HML HMC ⊢
  generalize magicK = mk at HMC HS0 ⊢
  go_enter Tryd.func67, Tryd.ntmps67
  go_upto_region 2 with (fail)
  go_loopg [0, 7] 8 (fun kq v0 v7 wr => ∃ i : Nat, v7 = .int .i64 i ∧ Aside0 (i + kq = 8) ∧ ((Aside0 (i = 0) ∧ v0 = .slice (some ⟨gc, 0, none⟩) 4 4 ∧ Aside0 (Sep w0 wr (blkT gc mk :: L))) ∨ (Aside0 (0 < i) ∧ Aside0 (Sep w0 wr (ownT (Kd.int .u8) 5 v0 (mj ++ fixL y i) :: L)))))
  case atStart => exact ⟨0, rfl, ⟨rfl⟩, .inl ⟨⟨rfl⟩, rfl, HS0⟩⟩
  case round =>
    obtain ⟨i, rfl, HJ, hst⟩ := hrel
    clear HS0
    by_cases hi : i < 8
    · have t1 : decide ((i : Int) < 8) = true := decide_eq_true (by omega)
      have hi1 : (i : Int) < 8 := by omega
      have HI := Aside0.mk hi
      have HFX := Aside0.mk (fix_next y i)
      rcases hst with ⟨HZ, rfl, HS⟩ | ⟨HP, HS⟩
      · have HS2 := Aside0.mk (Sep.push_lit HS.out [(y : Int) / 2 ^ (8 * i) % 256] 1 rfl (by decide))
        have HS3 := Aside0.mk (show Sep w0 (wr.alloc (.cells #[.int .u8 ((y : Int) / 2 ^ (8 * i) % 256)] 5)) (ownT (Kd.int .u8) 5 (.slice (some ⟨wr.heap.size, 0, none⟩) 1 1) [(y : Int) / 2 ^ (8 * i) % 256] :: blkT gc mk :: L) from HS2.out)
        clear HS2
        go_wp2_with ((with_reducible refine gate_builtin (b := .append) (xs := #[.tmp 13, .tmp 20]) rfl ?_); refine Sep.app_grow rfl _ _ rfl rfl rfl (Kd.C_below (HMC.out _ HS.out) (below_alloc (Below.refl _ _) _)) HS3.out ?aP ?aL ?_; (case aP => exact Nat.zero_lt_one); (case aL => show 4 + 1 ≤ 140737488355328; decide); intro v1 w1 h1; have HS1 := Aside0.mk h1; clear h1)
        go_roundg (gk - 1)
        case measure => have := HJ.out; omega
        case rel => exact ⟨i + 1, rfl, ⟨by have := HJ.out; have := HI.out; omega⟩, .inr ⟨⟨Nat.succ_pos _⟩, ⟨by
          have h := HS1.out.up1.drop.up1.drop
          have e := HFX.out
          rw [HZ.out] at e h ⊢
          rw [show fixL y 0 = [] from rfl, List.nil_append] at e
          rwa [← e]⟩⟩⟩
      · go_wp2_with ((with_reducible refine gate_builtin (b := .append) (xs := #[.tmp 13, .tmp 20]) rfl ?_); refine Sep.app_one rfl _ _ rfl ((y : Int) / 2 ^ (8 * i) % 256) rfl rfl HS.out ?aL ?_; (case aL => rw [List.length_append, HML.out, fixL_len]; have := HI.out; omega); intro v1 w1 h1; have HS1 := Aside0.mk h1; clear h1)
        go_roundg (gk - 1)
        case measure => have := HJ.out; omega
        case rel => exact ⟨i + 1, rfl, ⟨by have := HJ.out; have := HI.out; omega⟩, .inr ⟨⟨Nat.succ_pos _⟩, ⟨by have h := HS1.out; rwa [List.append_assoc, HFX.out] at h⟩⟩⟩
    · have hi3 : i = 8 := by have := HJ.out; omega
      have t1 : decide ((i : Int) < 8) = false := decide_eq_false (by omega)
      rcases hst with ⟨HZ, _, _⟩ | ⟨HP, HS⟩
      · have := HZ.out
        omega
      · subst hi3
        go_wp2
        go_ret
        exact ⟨_, rfl, HS.out⟩
end Go.Proofs.YtagodmmpkapgnaaDoor.M

namespace Go.Proofs.YtagodmmpkapgnaaDoor.M
open Go.RowKit Go.Maps Go.Proofs.YtagodmmpkapgnaaDoorW.PrintWords Go.Proofs.YtagodmmpkapgnaaDoorW.PrintLast Go.Proofs.YtagodmmpkapgnaaDoorW.PrintMore Go.Proofs.YtagodmmpkapgnaaDoor.Wr Go.Proofs.YtagodmmpkapgnaaDoor.Pl Go.Proofs.YtagodmmpkapgnaaDoor.P Go.Proofs.YtagodmmpkapgnaaDoor.A
set_option linter.unusedVariables false
set_option linter.unusedSimpArgs false
set_option maxHeartbeats 8000000 in
set_option maxRecDepth 100000 in
theorem encode17_no (s : RC) (hs : s.Ok) (he : errJ s ≠ 0) (A : Option Addr) (c : Nat) (w : World) (hC : kRF.C w A s.r.length s.r) : Calls Tryd.prog 18 #[.agg (s.V A c).toArray] w fun e w' => e = .returned (.tuple #[.slice none 0 0, .int .i64 (errJ s)]) ∧ Below w.heap.size w w' := by
  have HB := Aside0.mk (below_alloc (Below.refl w.heap.size w) (.cells (s.V A c).toArray 26))
  have HR := RcAt.mk (heap_alloc_new w (.cells (s.V A c).toArray 26)) hs
  have x0 := HR.c0
  have x33 := HR.c33
  have HL := Aside0.mk (fun W hw => refs66_calls s.r s.r.length rfl A c W (Kd.C_below hC hw))
  have HCUT := Aside0.mk (fun (e : Ending) (w' : World) (v : Int) (he : e = .returned (.tuple #[.slice none 0 0, .int .i64 v])) (hb : v = errJ s) (hw : Below w.heap.size w w') => (show e = .returned (.tuple #[.slice none 0 0, .int .i64 (errJ s)]) ∧ Below w.heap.size w w' from ⟨by rw [he, hb], hw⟩))
  by_cases h0 : s.n < 0
  · have t0 : decide (s.n < 0) = true := decide_eq_true h0
    have HE := Aside0.mk (show (171 : Int) = errJ s from by unfold errJ; rw [if_pos (.inl h0)])
    clear hC hs h0 HR he x33 HL
    generalize (s.V A c).toArray = V at HB x0 ⊢
    go_enter Tryd.func18, Tryd.ntmps18
    go_upto_region 1 with (fail)
    generalize w.alloc (.cells V 26) = w1 at HB x0 ⊢
    generalize w.heap.size = g0 at x0 ⊢
    go_wp2
    go_ret2
    exact HCUT.out _ _ _ rfl HE.out HB.out
  · have t0 : decide (s.n < 0) = false := decide_eq_false h0
    by_cases h1 : 1099511627776 < s.n
    · have t1 : decide (1099511627776 < s.n) = true := decide_eq_true h1
      have HE := Aside0.mk (show (171 : Int) = errJ s from by unfold errJ; rw [if_pos (.inr h1)])
      clear hC hs h0 h1 HR he x33 HL
      generalize (s.V A c).toArray = V at HB x0 ⊢
      go_enter Tryd.func18, Tryd.ntmps18
      go_upto_region 1 with (fail)
      generalize w.alloc (.cells V 26) = w1 at HB x0 ⊢
      generalize w.heap.size = g0 at x0 ⊢
      go_wp2
      go_ret2
      exact HCUT.out _ _ _ rfl HE.out HB.out
    · have t1 : decide (1099511627776 < s.n) = false := decide_eq_false h1
      have t2 : refsM s.r = false := by
        cases hq : refsM s.r with
        | false => rfl
        | true => exact absurd (by unfold errJ; rw [if_neg (by omega), if_pos hq]) he
      have HE := Aside0.mk (show (172 : Int) = errJ s from by unfold errJ; rw [if_neg (by omega), t2]; rfl)
      clear hC hs HR he h0 h1
      generalize (s.V A c).toArray = V at HB x0 x33 ⊢
      go_enter Tryd.func18, Tryd.ntmps18
      go_upto_region 1 with (fail)
      generalize w.alloc (.cells V 26) = w1 at HB x0 x33 ⊢
      generalize w.heap.size = g0 at x0 x33 ⊢
      go_wp2_with (go_at_call 66; (with_reducible refine (HL.out _ HB.out).mono ?_); rintro e w3 ⟨rfl, hb⟩; have HS2 := Aside0.mk (below_step HB.out hb); clear hb; try rw [t2])
      go_ret2
      exact HCUT.out _ _ _ rfl HE.out HS2.out
theorem RC.Vk {s : RC} (hs : s.Ok) (A : Option Addr) (c i : Nat) (hi : i < 32) : (s.V A c)[1 + i]? = some (.int .u8 (s.p.getD i 0)) := by
  rw [get_drop, RC.Vd1, List.getElem?_append_left (by rw [nums_length, hs.k]; exact hi)]
  unfold nums
  rw [List.getElem?_map, List.getElem?_eq_getElem (by rw [hs.k]; exact hi), List.getD_eq_getElem?_getD, List.getElem?_eq_getElem (by rw [hs.k]; exact hi)]
  rfl
theorem RF.Vk {x : RF} (hx : x.Ok) (i : Nat) (hi : i < 32) : x.V[i]? = some (.int .u8 (x.h.getD i 0)) := by
  unfold RF.V refV
  rw [List.getElem?_append_left (by rw [nums_length, hx.k]; exact hi)]
  unfold nums
  rw [List.getElem?_map, List.getElem?_eq_getElem (by rw [hx.k]; exact hi), List.getD_eq_getElem?_getD, List.getElem?_eq_getElem (by rw [hx.k]; exact hi)]
  rfl
theorem headJ_cut2 (s : RC) : magicJ ++ fixL s.n.toNat 8 ++ s.p ++ [((s.r.length : Nat) : Int)] = headJ s := headJ_cut s
set_option maxHeartbeats 16000000 in
set_option maxRecDepth 100000 in
theorem encode17_yes (s : RC) (hs : s.Ok) (hm : s.May) (A : Option Addr) (c : Nat) (w : World) (hC : kRF.C w A s.r.length s.r) : Calls Tryd.prog 18 #[.agg (s.V A c).toArray] w fun e w' => ∃ A' c', e = .returned (.tuple #[.slice A' 512 c', .int .i64 0]) ∧ Sep w w' [ownT (Kd.int .u8) 5 (.slice A' 512 c') (encJ s)] := by
  have HS0 := Aside0.mk ((Sep.refl w).push_alloc (s.V A c).toArray 26)
  have HRc := Aside0.mk (fun W (t : Th) (M : List Th) (h : Sep w W (t :: cellsT w.heap.size (s.V A c).toArray 26 :: M)) => (show RcAt W w.heap.size s A c from ⟨h.up1.cells.1, hs⟩))
  have HRc0 := Aside0.mk (fun W (M : List Th) (h : Sep w W (cellsT w.heap.size (s.V A c).toArray 26 :: M)) => (show RcAt W w.heap.size s A c from ⟨h.cells.1, hs⟩))
  have HLK := Aside0.mk (fun W i (hi : i < 32) (t : Th) (M : List Th) (h : Sep w W (t :: cellsT w.heap.size (s.V A c).toArray 26 :: M)) => (show W.cell? ⟨w.heap.size, 1 + i, none⟩ = some (.int .u8 (s.p.getD i 0)) from cell_at (cs := s.V A c) h.up1.cells.1 (1 + i) (RC.Vk hs A c i hi)))
  have HL := Aside0.mk (fun W hw => (show Calls Tryd.prog 66 #[.slice A s.r.length c] W (fun e w' => e = .returned (.bool true) ∧ Below W.heap.size W w') from by
    have h := refs66_calls s.r s.r.length rfl A c W (Kd.C_below hC hw)
    rwa [(refsM_iff s.r).2 ⟨hm.r1, hm.r8, hm.r⟩] at h))
  have HAT := Aside0.mk (fun (i : Nat) (hi : i < s.r.length) W (hw : Below w.heap.size w W) => at_RF (Kd.C_below hC hw) i hi)
  have HOK := Aside0.mk hs
  have HMY := Aside0.mk hm
  have hkc := fun (w : World) (C : Array Value) (n c : Nat) => Lib.run_convert_bytes_const (P := Tryd.prog) w 29 5 C n c Tryd.underlying29 Tryd.underlying5
  have t0 : decide (s.n < 0) = false := decide_eq_false (by have := hm.n; omega)
  have t1 : decide (1099511627776 < s.n) = false := decide_eq_false (by have := hm.n; omega)
  have HN := Aside0.mk (show 0 ≤ s.n ∧ s.n < 18446744073709551616 from by have := hm.n; omega)
  have HHL := Aside0.mk (headJ_len hs)
  clear hC hs hm
  generalize hV : (s.V A c).toArray = V at HS0 HRc HRc0 HLK ⊢
  clear hV
  generalize hn : s.r.length = n at HL HAT
  have HNL := Aside0.mk hn
  have H18 := Aside0.mk (show 1 ≤ n ∧ n ≤ 8 from by rw [← hn]; exact ⟨HMY.out.r1, HMY.out.r8⟩)
  have HRn := Aside0.mk (fun W g (h : RcAt W g s A c) => (show W.cell? ⟨g, 33, none⟩ = some (.slice A n c) from by have h2 := h.c33; rwa [hn] at h2))
  have hn0 : 1 ≤ (n : Int) := by have := H18.out; omega
  have hn8 : (n : Int) ≤ 8 := by have := H18.out; omega
  have hwl : (n : Int) % 256 = (n : Int) := by omega
  have hwl2 : IntKind.u8.wrap (n : Int) = (n : Int) := by
    have : IntKind.u8.wrap (n : Int) = (n : Int) % 256 := rfl
    omega
  clear hn
  go_enter Tryd.func18, Tryd.ntmps18
  go_upto_region 1 with (fail)
  generalize w.alloc (.cells V 26) = w1 at HS0 ⊢
  generalize hg : w.heap.size = g0 at HS0 HRc HRc0 HLK ⊢
  have HG := Aside0.mk hg
  have x0 := (HRc0.out _ _ HS0.out).c0
  have x33 := HRn.out _ _ (HRc0.out _ _ HS0.out)
  go_upto_region 5 with (go_at_call 66; (with_reducible refine (HL.out _ HS0.out.below).mono ?_); rintro e w3 ⟨rfl, hb⟩; have HS2 := Aside0.mk (HS0.out.step hb); clear hb x33 x0)
  clear HS0 t0 t1
  have HS3 := Aside0.mk (HS2.out.push_obj magicK)
  have HW := Aside0.mk (show w3.alloc (.cells #[.int .u8 119, .int .u8 111, .int .u8 114, .int .u8 107] 5 (4, 5)) = w3.alloc magicK from rfl)
  go_upto_region 6 with (fail)
  rw [HW.out]
  generalize w3.alloc magicK = w4 at HS3 ⊢
  generalize w3.heap.size = gc at HS3 ⊢
  clear hkc HW HS2
  have x0 := (HRc.out _ _ _ HS3.out).c0
  go_upto_region 7 with (go_at_call 67; (with_reducible refine (Sep.fix17_k HS3.out s.n HN.out.1).mono ?_); rintro e w5 ⟨v5, rfl, h5⟩; have HS5 := Aside0.mk h5; clear h5 x0)
  clear HS3
  go_upto_region 8 with (fail)
  go_loopg [4, 5] 32 (fun kq v4 v5 wr => ∃ i : Nat, v5 = .int .i64 i ∧ Aside0 (i + kq = 32) ∧ Aside0 (Sep w wr (ownT (Kd.int .u8) 5 v4 (magicJ ++ fixL s.n.toNat 8 ++ s.p.take i) :: cellsT g0 V 26 :: [])))
  case atStart => exact ⟨0, rfl, ⟨rfl⟩, ⟨by rw [List.take_zero, List.append_nil]; exact HS5.out⟩⟩
  case round =>
    obtain ⟨i, rfl, HJ, hS⟩ := hrel
    clear HS5
    by_cases hi : i < 32
    · have hi1 : (i : Int) < 32 := by omega
      have t0 : decide ((i : Int) < 32) = true := decide_eq_true hi1
      have x0 := HLK.out _ i hi _ _ hS.out
      have HI := Aside0.mk hi
      go_wp2_with ((with_reducible refine gate_builtin (b := .append) (xs := #[.tmp 30, .tmp 35]) rfl ?_); refine Sep.app_one rfl _ _ rfl (s.p.getD i 0) rfl rfl hS.out ?aL1 ?_; (case aL1 => have := HI.out; have := HOK.out.k; rw [List.length_append, List.length_append, magicJ_len, fixL_len, List.length_take]; omega); intro v1 wk h1; have HS1 := Aside0.mk h1; clear h1)
      go_roundg (32 - (i + 1))
      case measure => have := HJ.out; have := HI.out; omega
      case rel => exact ⟨i + 1, rfl, ⟨by have := HJ.out; have := HI.out; omega⟩, ⟨by have := HS1.out; rwa [List.append_assoc, ← take_snoc s.p 0 (show i < s.p.length by have := HOK.out.k; have := HI.out; omega)] at this⟩⟩
    · have hi3 : i = 32 := by have := HJ.out; omega
      subst hi3
      have HS6 := Aside0.mk (show Sep w wr (ownT (Kd.int .u8) 5 _ (magicJ ++ fixL s.n.toNat 8 ++ s.p) :: cellsT g0 V 26 :: []) from by have := hS.out; rwa [List.take_of_length_le (show s.p.length ≤ 32 by have := HOK.out.k; omega)] at this)
      clear hS HLK hi
      have x33 := HRn.out _ _ (HRc.out _ _ _ HS6.out)
      go_upto_region 12 with ((with_reducible refine gate_builtin (b := .append) (xs := #[.tmp 37, .tmp 42]) rfl ?_); refine Sep.app_one rfl _ _ rfl (n : Int) rfl rfl HS6.out ?aL ?_; (case aL => have := HOK.out.k; simp only [List.length_append, magicJ_len, fixL_len]; omega); intro v7 w7 h7; have HS7 := Aside0.mk h7; clear h7)
      have HS8 := Aside0.mk (show Sep w w7 (ownT (Kd.int .u8) 5 v7 (headJ s ++ refsJ (s.r.take 0)) :: cellsT g0 V 26 :: []) from by
        have h := HS7.out
        have e := headJ_cut2 s
        rw [HNL.out] at e
        rw [e] at h
        rwa [List.take_zero, show refsJ [] = [] from rfl, List.append_nil])
      clear HS7 HS6 x33
      go_upto_region 13 with (fail)
      go_loopg [4, 6] n (fun kq v4 v6 wr => ∃ i : Nat, v6 = .int .i64 i ∧ Aside0 (i + kq = n) ∧ Aside0 (Sep w wr (ownT (Kd.int .u8) 5 v4 (headJ s ++ refsJ (s.r.take i)) :: cellsT g0 V 26 :: [])))
      case atStart => exact ⟨0, rfl, ⟨by omega⟩, HS8⟩
      case round =>
        obtain ⟨i, rfl, HJ, HS⟩ := hrel
        clear HS8
        have x33 := HRn.out _ _ (HRc.out _ _ _ HS.out)
        by_cases hi : i < n
        · have t1 : decide ((i : Int) < (n : Int)) = true := decide_eq_true (by omega)
          have hi1 : (i : Int) < (n : Int) := by omega
          have HI := Aside0.mk hi
          have hat := HAT.out i hi _ HS.out.below
          obtain ⟨hx, ad, hA, _⟩ := hat
          subst hA
          have HCL := Aside0.mk (fun W (hw : Below w.heap.size w W) => (show ∀ j v, (s.r.getD i zRF).V[j]? = some v → W.cell? (ad.add (i * 34 + j)) = some v from by
            obtain ⟨_, ad', e, h⟩ := HAT.out i hi W hw
            cases e
            exact h))
          have hxm := HMY.out.r _ (rf_mem (l := s.r) (i := i) (by have := HNL.out; omega))
          have HSN := Aside0.mk (show headJ s ++ refsJ (s.r.take (i + 1)) = (headJ s ++ refsJ (s.r.take i)) ++ (s.r.getD i zRF).B from by rw [refsJ_snoc s.r (show i < s.r.length by have := HNL.out; omega), List.append_assoc])
          have HLN := Aside0.mk (show (headJ s ++ refsJ (s.r.take i)).length ≤ 1000 from by
            rw [List.length_append, HHL.out, refsJ_len (fun x hx => HOK.out.r x (List.mem_of_mem_take hx)), List.length_take]
            have := H18.out
            have := HNL.out
            omega)
          generalize s.r.getD i zRF = x at hx HCL hxm HSN
          have HX := Aside0.mk hx
          have HXM := Aside0.mk hxm
          clear hx hxm
          generalize headJ s ++ refsJ (s.r.take i) = xs at HS HSN HLN
          go_upto_region 15 with (fail)
          go_upto_region 16 with (fail)
          clear x33
          go_loopg [4, 7] 32 (fun kq v4 v7 wq => ∃ j : Nat, v7 = .int .i64 j ∧ Aside0 (j + kq = 32) ∧ Aside0 (Sep w wq (ownT (Kd.int .u8) 5 v4 (xs ++ x.h.take j) :: cellsT g0 V 26 :: [])))
          case atStart => exact ⟨0, rfl, ⟨rfl⟩, ⟨by rw [List.take_zero, List.append_nil]; exact HS.out⟩⟩
          case round =>
            obtain ⟨j, rfl, HJ2, HS2⟩ := hrel
            clear HS
            have x33 := HRn.out _ _ (HRc.out _ _ _ HS2.out)
            by_cases hj : j < 32
            · have hj1 : (j : Int) < 32 := by omega
              have t2 : decide ((j : Int) < 32) = true := decide_eq_true hj1
              have HI2 := Aside0.mk hj
              have y0 := HCL.out _ HS2.out.below j _ (RF.Vk HX.out j hj)
              have y1 := y0
              rw [← Addr.add_add] at y1
              go_wp2_with ((with_reducible refine gate_builtin (b := .append) (xs := #[.tmp 55, .tmp 64]) rfl ?_); refine Sep.app_one rfl _ _ rfl (x.h.getD j 0) rfl rfl HS2.out ?aL1 ?_; (case aL1 => have := HI2.out; have := HX.out.k; have := HLN.out; rw [List.length_append, List.length_take]; omega); intro v1 wk h1; have HS1 := Aside0.mk h1; clear h1)
              go_roundg (32 - (j + 1))
              case measure => have := HJ2.out; have := HI2.out; omega
              case rel => exact ⟨j + 1, rfl, ⟨by have := HJ2.out; have := HI2.out; omega⟩, ⟨by have := HS1.out; rwa [List.append_assoc, ← take_snoc x.h 0 (show j < x.h.length by have := HX.out.k; have := HI2.out; omega)] at this⟩⟩
            · have hj3 : j = 32 := by have := HJ2.out; omega
              subst hj3
              have HSb := Aside0.mk (show Sep w _ (ownT (Kd.int .u8) 5 _ (xs ++ x.h) :: cellsT g0 V 26 :: []) from by have := HS2.out; rwa [List.take_of_length_le (show x.h.length ≤ 32 by have := HX.out.k; omega)] at this)
              clear HS2 hj
              have y1 := HCL.out _ HSb.out.below 32 _ (RF.V32 HX.out)
              rw [add_field ad (i * 34) 32 (by decide)] at y1
              go_upto_region 20 with (go_at_call 67; (with_reducible refine (Sep.fix17_4 HSb.out (by have := HLN.out; have := HX.out.k; rw [List.length_append]; omega) x.f HXM.out.1.1).mono ?_); rintro e wc ⟨vc, rfl, h4⟩; have HSc := Aside0.mk h4; clear h4 x33 y1)
              clear HSb
              have x33 := HRn.out _ _ (HRc.out _ _ _ HSc.out)
              have y1 := HCL.out _ HSc.out.below 33 _ (RF.V33 HX.out)
              rw [add_field ad (i * 34) 33 (by decide)] at y1
              go_wp2_with (go_at_call 67; (with_reducible refine (Sep.fix17_4 HSc.out (by have := HLN.out; have := HX.out.k; simp only [List.length_append, fixL_len]; omega) x.l HXM.out.2.1).mono ?_); rintro e wd ⟨vd, rfl, h4⟩; have HSd := Aside0.mk h4; clear h4 x33 y1)
              go_roundg (n - (i + 1))
              case measure => have := HJ.out; have := HI.out; omega
              case rel => exact ⟨i + 1, rfl, ⟨by have := HJ.out; have := HI.out; omega⟩, ⟨by
                have h := HSd.out
                rw [HSN.out]
                unfold RF.B refB
                rw [List.append_assoc, List.append_assoc] at h
                exact h⟩⟩
        · have hi3 : i = n := by have := HJ.out; omega
          have t1 : decide ((i : Int) < (n : Int)) = false := decide_eq_false (by omega)
          subst hi3
          have HSk := Aside0.mk (show Sep w wr (ownT (Kd.int .u8) 5 _ (bodyJ s) :: cellsT g0 V 26 :: []) from by
            have h := HS.out
            rwa [List.take_of_length_le (show s.r.length ≤ i by have := HNL.out; omega)] at h)
          clear HS
          have HML := Aside0.mk (bodyJ_len HOK.out)
          obtain ⟨m, hm⟩ : ∃ m, (bodyJ s).length = m := ⟨_, rfl⟩
          have HM := Aside0.mk hm
          have HM5 := Aside0.mk (show m ≤ 365 ∧ 508 - m = 463 - 40 * s.r.length by have := HML.out; have := HNL.out; have := H18.out; omega)
          clear hm
          go_upto_region 21 with (fail)
          clear x33
          go_loopg [4] (508 - m) (fun kq v4 wp => ∃ (j : Nat) (A' : Option Addr) (c' : Nat), v4 = .slice A' (m + j) c' ∧ Aside0 (m + j + kq = 508) ∧ Aside0 (Sep w wp (ownT (Kd.int .u8) 5 (.slice A' (m + j) c') (bodyJ s ++ List.replicate j 0) :: cellsT g0 V 26 :: [])))
          case atStart =>
            obtain ⟨A', c', hv⟩ := HSk.out.own_slice
            rw [HM.out] at hv
            exact ⟨0, A', c', hv, ⟨by have := HM5.out; omega⟩, ⟨by rw [List.replicate_zero, List.append_nil, Nat.add_zero, ← hv]; exact HSk.out⟩⟩
          case round =>
            obtain ⟨j, A', c', rfl, HJ2, hS⟩ := hrel
            clear HSk
            by_cases hj : m + j < 508
            · have hj1 : (m : Int) + (j : Int) < 508 := by omega
              have t0 : decide (((m + j : Nat) : Int) < 508) = true := decide_eq_true (by omega)
              have t2 : decide ((m : Int) + (j : Int) < 508) = true := decide_eq_true hj1
              have HI := Aside0.mk hj
              go_wp2_with ((with_reducible refine gate_builtin (b := .append) (xs := #[.tmp 85, .tmp 86]) rfl ?_); refine Sep.app_one rfl _ _ rfl 0 rfl rfl hS.out ?aL1 ?_; (case aL1 => have := HI.out; have := HM.out; rw [List.length_append, List.length_replicate]; omega); intro v1 wk h1; have HS1 := Aside0.mk h1; clear h1)
              go_roundg (508 - (m + j + 1))
              case measure => have := HJ2.out; have := HI.out; omega
              case rel =>
                obtain ⟨A1, c1, hv⟩ := HS1.out.own_slice
                have hl : (bodyJ s ++ List.replicate j 0 ++ [0]).length = m + (j + 1) := by rw [List.length_append, List.length_append, HM.out, List.length_replicate]; rfl
                rw [hl] at hv
                subst hv
                exact ⟨j + 1, A1, c1, rfl, ⟨by have := HJ2.out; have := HI.out; omega⟩, ⟨by have := HS1.out; rwa [List.append_assoc, ← List.replicate_succ'] at this⟩⟩
            · have hj3 : m + j = 508 := by have := HJ2.out; omega
              have t2 : decide ((m : Int) + (j : Int) < 508) = false := decide_eq_false (by omega)
              have HSm := Aside0.mk (show Sep w _ (ownT (Kd.int .u8) 5 (.slice A' (m + j) c') (padJ s) :: cellsT g0 V 26 :: []) from by
                have h := hS.out
                have e : bodyJ s ++ List.replicate j 0 = padJ s := by
                  unfold padJ
                  rw [show j = 463 - 40 * s.r.length from by have := HM5.out; omega]
                rwa [e] at h)
              clear hS
              have HPL := Aside0.mk (show (padJ s).length = m + j from by rw [padJ_len HOK.out HMY.out.r8, hj3])
              have HP5 := Aside0.mk (padJ_len HOK.out HMY.out.r8)
              have HBY := Aside0.mk (bytes_padJ HOK.out HMY.out.r8)
              have HCR := Aside0.mk (crc_lt (padJ s))
              have HSU := Aside0.mk (Sep.crc17 HSm.out HBY.out HPL.out (by omega))
              have HEN := Aside0.mk (show padJ s ++ fixL (crc (padJ s)) 4 = encJ s from rfl)
              clear hj3 hj
              generalize crc (padJ s) = q at HCR HSU HEN
              have hq1 : (q : Int) < 4294967296 := by have := HCR.out; omega
              go_wp2_with (first
                | (go_at_call 68; (with_reducible refine HSU.out.mono ?_); rintro e wa ⟨rfl, h4⟩; have HSo := Aside0.mk h4; clear h4)
                | (go_at_call 67; (with_reducible refine (Sep.fix17_4 HSo.out (by have := HP5.out; omega) (q : Int) (Int.natCast_nonneg q)).mono ?_); rintro e wb ⟨vb, rfl, h4⟩; have HSp := Aside0.mk h4; clear h4))
              obtain ⟨A3, c3, hv⟩ := HSp.out.own_slice
              rw [Int.toNat_natCast, HEN.out, encJ_len HOK.out HMY.out.r8] at hv
              subst hv
              go_ret2
              exact ⟨A3, c3, rfl, by have h := HSp.out.up1.drop; rwa [Int.toNat_natCast, HEN.out] at h⟩
end Go.Proofs.YtagodmmpkapgnaaDoor.M

namespace Go.Proofs.YtagodmmpkapgnaaDoor.M
open Go.RowKit Go.Maps Go.Proofs.YtagodmmpkapgnaaDoorW.PrintWords Go.Proofs.YtagodmmpkapgnaaDoorW.PrintLast Go.Proofs.YtagodmmpkapgnaaDoorW.PrintMore Go.Proofs.YtagodmmpkapgnaaDoor.Wr Go.Proofs.YtagodmmpkapgnaaDoor.Pl Go.Proofs.YtagodmmpkapgnaaDoor.P Go.Proofs.YtagodmmpkapgnaaDoor.A
set_option linter.unusedVariables false
set_option linter.unusedSimpArgs false
theorem or8i {x : Nat} {c : Int} (hx : x < 256 ^ 7) (h0 : 0 ≤ c) (h1 : c < 256) : Go.bits .or .i64 (wrap64 (wrap64 (x : Int) * 256)) (wrap64 c) = wrap64 ((c.toNat + 256 * x : Nat) : Int) := by
  have hx : x < 72057594037927936 := hx
  have e1 : (BitVec.ofInt 64 (wrap64 (wrap64 (x : Int) * 256))).toNat = 256 * x := by
    rw [BitVec.toNat_ofInt]; unfold wrap64; omega
  have e2 : (BitVec.ofInt 64 (wrap64 c)).toNat = c.toNat := by
    rw [BitVec.toNat_ofInt]; unfold wrap64; omega
  have h2 := Nat.two_pow_add_eq_or_of_lt (b := c.toNat) (i := 8) (by omega) x
  simp only [show (2 : Nat) ^ 8 = 256 from rfl] at h2
  have key : (BitVec.ofInt 64 (wrap64 (wrap64 (x : Int) * 256)) ||| BitVec.ofInt 64 (wrap64 c)).toNat = c.toNat + 256 * x := by
    rw [BitVec.toNat_or, e1, e2, ← h2, Nat.add_comm]
  show IntKind.i64.wrap ((BitVec.ofInt 64 (wrap64 (wrap64 (x : Int) * 256)) ||| BitVec.ofInt 64 (wrap64 c)).toNat : Nat) = _
  rw [key, IntKind.wrap_i64]
  unfold wrap64
  omega
theorem readR_l0 : ∀ (i : Nat) (b : List Int) (at_ n k : Nat), bytes_ b → b.length ≤ 4611686018427387904 → at_ + n ≤ b.length → i ≤ n → n ≤ 8 → i < k →
    kilnref17_number.l0 k b (at_ : Int) (wrap64 ((leV ((b.drop (at_ + i)).take (n - i)) : Nat) : Int)) ((i : Int) - 1) = some (wrap64 ((leV ((b.drop at_).take n) : Nat) : Int)) := by
  intro i
  induction i with
  | zero =>
    intro b at_ n k hb hl hat hi hn hk
    obtain ⟨k, rfl⟩ : ∃ q, k = q + 1 := ⟨k - 1, by omega⟩
    simp only [kilnref17_number.l0]
    rw [if_neg (by omega)]; simp
  | succ i ih =>
    intro b at_ n k hb hl hat hi hn hk
    obtain ⟨k, rfl⟩ : ∃ q, k = q + 1 := ⟨k - 1, by omega⟩
    simp only [kilnref17_number.l0]
    obtain ⟨c, hd, hr, hc⟩ := rd_drop (show at_ + i < b.length by omega)
    have hc := hb c hc
    rw [show (((i + 1 : Nat) : Int) - 1) = (i : Int) by omega, w64 (x := (at_ : Int) + (i : Int)) (by omega) (by omega), if_pos (by omega), if_pos (by omega), if_pos (by omega), show ((at_ : Int) + (i : Int)) = ((at_ + i : Nat) : Int) by omega, hr, w64 (x := (i : Int) - 1) (by omega) (by omega)]
    have hlt : leV ((b.drop (at_ + (i + 1))).take (n - (i + 1))) < 256 ^ 7 := by
      have h1 := leV_lt _ (bytes_take (bytes_drop hb (at_ + (i + 1))) (n - (i + 1)))
      have h2 : ((b.drop (at_ + (i + 1))).take (n - (i + 1))).length ≤ 7 := by simp; omega
      exact Nat.lt_of_lt_of_le h1 (Nat.pow_le_pow_right (by decide) h2)
    rw [or8i hlt hc.1 hc.2]
    have e : c.toNat + 256 * leV ((b.drop (at_ + (i + 1))).take (n - (i + 1))) = leV ((b.drop (at_ + i)).take (n - i)) := by
      rw [hd, show n - i = (n - (i + 1)) + 1 by omega, List.take_succ_cons]; rfl
    rw [e]
    exact ih b at_ n k hb hl hat (by omega) hn (by omega)
theorem readR_f {b : List Int} (hb : bytes_ b) (hl : b.length ≤ 4611686018427387904) (p n : Nat) (h8 : n ≤ 8) (hp : p + n ≤ b.length) : kilnref17_number.f 9 b (p : Int) (n : Int) = some (numAt b p n) := by
  unfold kilnref17_number.f numAt
  have h := readR_l0 n b p n 9 hb hl (by omega) (Nat.le_refl _) h8 (by omega)
  rw [w64 (by omega) (by omega)]
  have e : wrap64 ((leV ((b.drop (p + n)).take (n - n)) : Nat) : Int) = 0 := by rw [Nat.sub_self, List.take_zero]; simp [leV, wrap64]
  rw [e] at h
  exact h
theorem num71 {w : World} {A : Option Addr} {m c : Nat} {b : List Int} (hC : (Kd.int .u8).C w A m b) (hm : b.length = m) (hc : m ≤ c) (hb : bytes_ b) (p n : Nat) (P N : Int) (hP : (p : Int) = P) (hN : (n : Int) = N) (h8 : n ≤ 8) (hp : p + n ≤ m) (hl : m ≤ 1000000) :
    Calls Tryd.prog 71 #[.slice A m c, .int .i64 P, .int .i64 N] w fun e w' => e = .returned (.int .i64 (numAt b p n)) ∧ Below w.heap.size w w' := by
  subst hP hN hm
  refine (kilnref17_number.calls 9 A c b (p : Int) (n : Int) _ w hC hc (readR_f hb (by omega) p n h8 hp)).mono ?_
  rintro e w' ⟨rfl, k, rfl⟩
  exact ⟨rfl, pw_below_drewN (Below.refl _ _) _⟩
theorem num_f {b : List Int} (hb : bytes_ b) (hl : b.length ≤ 1000000) (p n : Nat) (h1 : 1 ≤ n) (h8 : n ≤ 8) (hp : p + n ≤ b.length) : ∃ k, journal_number.f k b (p : Int) (n : Int) = some (numAt b p n) := by
  obtain ⟨K, hK⟩ := readF_ev hb (by omega) (p : Int) (n : Int)
  have h2 : wire_ReadFixed.f K b (p : Int) (n : Int) = some (readFR b (p : Int) (n : Int)) := hK K (Nat.le_refl _)
  refine ⟨K, ?_⟩
  unfold journal_number.f
  rw [h2]
  unfold readFR
  rw [if_neg (by omega), if_neg (by omega), Int.toNat_natCast, Int.toNat_natCast]
  rfl
theorem num69 {w : World} {A : Option Addr} {m c : Nat} {b : List Int} (hC : (Kd.int .u8).C w A m b) (hm : b.length = m) (hc : m ≤ c) (hb : bytes_ b) (p n : Nat) (P N : Int) (hP : (p : Int) = P) (hN : (n : Int) = N) (h1 : 1 ≤ n) (h8 : n ≤ 8) (hp : p + n ≤ m) (hl : m ≤ 1000000) :
    Calls Tryd.prog 69 #[.slice A m c, .int .i64 P, .int .i64 N] w fun e w' => e = .returned (.int .i64 (numAt b p n)) ∧ Below w.heap.size w w' := by
  subst hP hN hm
  obtain ⟨k, hk⟩ := num_f hb hl p n h1 h8 hp
  refine (journal_number.calls k A c b (p : Int) (n : Int) _ w hC hc hk).mono ?_
  rintro e w' ⟨rfl, k, rfl⟩
  exact ⟨rfl, pw_below_drewN (Below.refl _ _) _⟩
set_option maxRecDepth 100000 in
theorem info69 : (Tryd.prog.info? 69).map (fun i => (i.zero, i.size, i.bytes)) = some (some (.agg zRF.V.toArray), 34, 48) := by kernel_rfl
section
variable {ops : Array Oper} {rest : List Oper} {o : Oper} {a : Act} {Q : Exit → Act → World → Prop} {w0 W : World} {L : List Th}
theorem Sep.app_ref (hgd : o.guard = none) (s x : Operand) (ho : o.op = .call { callee := .builtin .append, args := #[s, x], argTypes := #[24, 24] })
    {v : Value} {l : List RF} (y : RF) (hy : y.Ok) (hs : a.eval s = v) (hx : a.eval x = .slice (some ⟨W.heap.size, 0, none⟩) 1 1) (h : Sep w0 W (ownT kRF 69 v l :: L)) (hl : l.length + 1 ≤ 1000000)
    (hk : ∀ v1 w1, Sep w0 w1 (ownT kRF 69 v1 (l ++ [y]) :: L) → wpList Tryd.prog ops Q rest (a.put o.dst v1) w1) : wpList Tryd.prog ops Q (o :: rest) a (W.alloc (.cells y.V.toArray 69)) := by
  obtain ⟨ok, hfresh, hr, back⟩ := h.open_own
  refine Kd.R_append kRF (w0 := W) 0 hgd s x 24 69 (.agg zRF.V.toArray) 48 ho Tryd.underlying24 info69 (by show zRF.V.toArray.size = 34; simpa using RF.V_len zRF_ok) (by decide) (by decide) v l y y.V ok (fun _ => False) hs hx ⟨hy, rfl⟩ (fun _ hk => hk.elim) hfresh hr (Below.refl _ _) (Nat.zero_le _) (by omega) ?_
  intro v1 w1 hown _ hg _
  exact hk v1 w1 (back v1 (l ++ [y]) w1 hown hg)
end
theorem RC.set0 (n n' : Int) (p : List Int) (r : List RF) (A : Option Addr) (c : Nat) : (RC.V ⟨n, p, r⟩ A c).toArray.setIfInBounds 0 (.int .i64 n') = (RC.V ⟨n', p, r⟩ A c).toArray := by
  unfold RC.V
  simp
theorem nums_set (p : List Int) (k : Nat) (y : Int) : (nums .u8 p).set k (.int .u8 y) = nums .u8 (p.set k y) := by
  unfold nums
  rw [List.map_set]
theorem RC.setk (n : Int) (p : List Int) (hp : p.length = 32) (r : List RF) (A : Option Addr) (c k : Nat) (hk : k < 32) (y : Int) : (RC.V ⟨n, p, r⟩ A c).toArray.setIfInBounds (1 + k) (.int .u8 y) = (RC.V ⟨n, p.set k y, r⟩ A c).toArray := by
  unfold RC.V
  rw [List.setIfInBounds_toArray, Nat.add_comm 1 k]
  congr 1
  show _ :: ((nums .u8 p ++ [Value.slice A r.length c]).set k _) = _
  rw [List.set_append_left _ _ (by rw [nums_length, hp]; exact hk), nums_set]
  rfl
theorem RC.set33 (n : Int) (p : List Int) (hp : p.length = 32) (r r' : List RF) (A A' : Option Addr) (c c' m : Nat) (hm : r'.length = m) : (RC.V ⟨n, p, r⟩ A c).toArray.setIfInBounds 33 (.slice A' m c') = (RC.V ⟨n, p, r'⟩ A' c').toArray := by
  subst hm
  unfold RC.V
  rw [List.setIfInBounds_toArray]
  congr 1
  show _ :: ((nums .u8 p ++ [Value.slice A r.length c]).set 32 _) = _
  rw [List.set_append_right _ _ (by rw [nums_length, hp]; exact Nat.le_refl _), nums_length, hp]
  rfl
theorem RF.setk (h : List Int) (hh : h.length = 32) (f l : Int) (k : Nat) (hk : k < 32) (y : Int) : (refV h f l).toArray.setIfInBounds k (.int .u8 y) = (refV (h.set k y) f l).toArray := by
  unfold refV
  rw [List.setIfInBounds_toArray, List.set_append_left _ _ (by rw [nums_length, hh]; exact hk), nums_set]
theorem RF.set32 (h : List Int) (hh : h.length = 32) (f l f' : Int) : (refV h f l).toArray.setIfInBounds 32 (.int .i64 f') = (refV h f' l).toArray := by
  unfold refV
  rw [List.setIfInBounds_toArray, List.set_append_right _ _ (by rw [nums_length, hh]; exact Nat.le_refl _), nums_length, hh]
  rfl
theorem RF.set33 (h : List Int) (hh : h.length = 32) (f l l' : Int) : (refV h f l).toArray.setIfInBounds 33 (.int .i64 l') = (refV h f l').toArray := by
  unfold refV
  rw [List.setIfInBounds_toArray, List.set_append_right _ _ (by rw [nums_length, hh]; decide), nums_length, hh]
  rfl
def fillK (ky : List Int) (i : Nat) : List Int := ky.take i ++ List.replicate (32 - i) 0
theorem fillK_len {ky : List Int} (h : ky.length = 32) {i : Nat} (hi : i ≤ 32) : (fillK ky i).length = 32 := by
  unfold fillK
  rw [List.length_append, List.length_take, List.length_replicate]
  omega
theorem fillK_all {ky : List Int} (h : ky.length = 32) : fillK ky 32 = ky := by
  unfold fillK
  rw [List.take_of_length_le (by omega), Nat.sub_self, List.replicate_zero, List.append_nil]
theorem fillK_step {ky : List Int} (h : ky.length = 32) {i : Nat} (hi : i < 32) : (fillK ky i).set i (ky.getD i 0) = fillK ky (i + 1) := by
  unfold fillK
  rw [List.set_append_right _ _ (by rw [List.length_take]; omega), List.length_take, show i - min i ky.length = 0 by omega, show 32 - i = (32 - (i + 1)) + 1 by omega, List.replicate_succ, List.set_cons_zero, take_snoc ky 0 (by omega), List.append_assoc]
  rfl
theorem cell_any0 {w : World} {g e : Nat} {cs : Array Value} (h : w.heap[g]? = some (.cells cs e (0, 0))) (i : Nat) (hi : i < cs.size) : ∃ u, w.cell? ⟨g, i, none⟩ = some u := by
  rw [blk_cell h]
  exact ⟨_, Array.getElem?_eq_getElem hi⟩
theorem run_bs69 (cells : Array Value) (h : cells.size = 34) (v : Value) (hv : v.cells = cells) (W : World) : (Instr.buildSlice 24 1 #[(0, v)]).run Tryd.prog W = .ok (.slice (some ⟨W.heap.size, 0, none⟩) 1 1) (W.alloc (.cells cells 69)) := by
  obtain ⟨i, hi, hz, hsz, hby⟩ := info_parts info69
  generalize Value.agg zRF.V.toArray = zv at hz
  refine run_buildSlice W _ _ 1 _ cells i zv Tryd.underlying24 hi hz (by rw [hsz]; decide) (by rw [hsz]; decide) ?_
  have hl : ((Array.range (1 * i.size)).map (zv.cells[· % zv.cells.size]!)).size = 34 := by
    rw [Array.size_map, Array.size_range, hsz]
  generalize (Array.range (1 * i.size)).map (zv.cells[· % zv.cells.size]!) = z at hl
  have h1 := fold_zip cells.toList 0 z.toList (by rw [Array.length_toList, Array.length_toList, h, hl]; omega)
  rw [Array.toArray_toList] at h1
  have h2 : cells.zipIdx.foldl (fun cs (p : Value × Nat) => cs.setIfInBounds (0 + p.2) p.1) z = (cells.toList.zipIdx 0).foldl (fun cs (p : Value × Nat) => cs.setIfInBounds (0 + p.2) p.1) z := by
    rw [← Array.foldl_toList, Array.toList_zipIdx]
  rw [h1] at h2
  have h3 : (z.toList.take 0 ++ cells.toList ++ z.toList.drop (0 + cells.toList.length)).toArray = cells := by
    rw [List.drop_of_length_le (by rw [Array.length_toList, Array.length_toList, h, hl]; omega), List.append_nil, List.take_zero, List.nil_append, Array.toArray_toList]
  rw [h3] at h2
  have h4 : ((v.cells.size ≠ i.size) || decide (0 * i.size + v.cells.size > z.size)) = false := by rw [hv, h, hsz, hl]; decide
  show Instr.fill _ z [(0, v)] = some cells
  unfold Instr.fill
  simp only [h4, Bool.false_eq_true, if_false]
  unfold Instr.fill
  rw [hv, Nat.zero_mul]
  exact congrArg some h2
section
variable {P : Program} {ops : Array Oper} {rest : List Oper} {o : Oper} {a : Act} {w : World} {Q : Exit → Act → World → Prop}
theorem gate_bs {ty : TypeId} {n : Nat} {ps : Array (Nat × Operand)} (_ho : o.op = .buildSlice ty n ps) (h : wpList P ops Q (o :: rest) a w) : wpList P ops Q (o :: rest) a w := h
theorem wpList_bs69 (hgd : o.guard = none) (x : Operand) (ho : o.op = .buildSlice 24 1 #[(0, x)]) (cs : Array Value) (hx : a.eval x = .agg cs) (h : cs.size = 34)
    (hk : wpList Tryd.prog ops Q rest (a.put o.dst (.slice (some ⟨w.heap.size, 0, none⟩) 1 1)) (w.alloc (.cells cs 69))) : wpList Tryd.prog ops Q (o :: rest) a w :=
  wpList_plain hgd fun K hK => by
    have h1 := run_bs69 cs h (.agg cs) rfl w
    unfold Oper.wp execOp
    simp only [ho, hx, Sem.run_bind, List.map_toArray, List.map_cons, List.map_nil, h1, Result.andThen_ok]
    exact hK _ _ hk
end
end Go.Proofs.YtagodmmpkapgnaaDoor.M

namespace Go.Proofs.YtagodmmpkapgnaaDoor.M
open Go.RowKit Go.Maps Go.Proofs.YtagodmmpkapgnaaDoorW.PrintWords Go.Proofs.YtagodmmpkapgnaaDoorW.PrintLast Go.Proofs.YtagodmmpkapgnaaDoorW.PrintMore Go.Proofs.YtagodmmpkapgnaaDoor.Wr Go.Proofs.YtagodmmpkapgnaaDoor.Pl Go.Proofs.YtagodmmpkapgnaaDoor.P Go.Proofs.YtagodmmpkapgnaaDoor.A
set_option linter.unusedVariables false
set_option linter.unusedSimpArgs false
theorem results_row_tmp {P : Program} {fn : Func} {p u : Tmp} {ty : TypeId} (h : fn.results = #[.cell p ty, .tmp u]) (tmps : Array Value) (w : World) (g : Nat) (t : TypeId) (cs : Array Value) (fr : Nat × Nat) (d : TypeDesc) (v : Value)
    (hp : tmps.getD p undef = .pointer (some ⟨g, 0, none⟩)) (hv : tmps.getD u undef = v) (hg : w.heap[g]? = some (.cells cs t fr))
    (hu : P.underlying ty = some d) (hd : (match d with | .struct _ | .array _ _ => true | _ => false) = true) (hi : (P.info? ty).map (·.size) = some cs.size) :
    (results fn tmps).run P w = .ok (.tuple #[.agg cs, v]) w := by
  rw [results_cell_tmp h, hp, hv]
  simp [asAddr, run_loadVar_row w g t ty cs fr d hg hu hd hi, Sem.run_bind]
theorem bytes_same {x y : List Int} (hx : bytes_ x) (hy : bytes_ y) : ((strOfNums x).toList == (strOfNums y).toList) = decide (x = y) := by
  rw [strOfNums_toList, strOfNums_toList]
  by_cases h : x = y
  · subst h
    simp
  · rw [decide_eq_false h, beq_eq_false_iff_ne]
    intro e
    exact h (bytes_inj x y hx hy e)
theorem addr44 (ad : Addr) : ad.add 44 = ⟨ad.block, ad.off + 44, none⟩ := by
  have h := add_field ad 0 44 (by decide)
  rwa [Nat.zero_add, show ad.add 0 = ad from rfl] at h
theorem same72 {w : World} {A1 A2 : Option Addr} {m1 m2 c1 c2 : Nat} {x y : List Int} (h1 : (Kd.int .u8).C w A1 m1 x) (h2 : (Kd.int .u8).C w A2 m2 y) (hm1 : x.length = m1) (hm2 : y.length = m2) (hc1 : m1 ≤ c1) (hc2 : m2 ≤ c2) (hx : bytes_ x) (hy : bytes_ y) :
    Calls Tryd.prog 72 #[.slice A1 m1 c1, .slice A2 m2 c2] w fun e w' => e = .returned (.bool (decide (x = y))) ∧ Below w.heap.size w w' := by
  subst hm1 hm2
  refine (kilnref17_Same.calls A1 c1 x A2 c2 y (decide (x = y)) w h1 hc1 h2 hc2 (by unfold kilnref17_Same.f; rw [bytes_same hx hy])).mono ?_
  rintro e w' ⟨rfl, k, rfl⟩
  exact ⟨rfl, pw_below_drewN (Below.refl _ _) _⟩
theorem same70 {w : World} {A1 A2 : Option Addr} {m1 m2 c1 c2 : Nat} {x y : List Int} (h1 : (Kd.int .u8).C w A1 m1 x) (h2 : (Kd.int .u8).C w A2 m2 y) (hm1 : x.length = m1) (hm2 : y.length = m2) (hc1 : m1 ≤ c1) (hc2 : m2 ≤ c2) (hx : bytes_ x) (hy : bytes_ y) :
    Calls Tryd.prog 70 #[.slice A1 m1 c1, .slice A2 m2 c2] w fun e w' => e = .returned (.bool (decide (x = y))) ∧ Below w.heap.size w w' := by
  subst hm1 hm2
  refine (bytes_Equal.calls A1 c1 x A2 c2 y (decide (x = y)) w h1 hc1 h2 hc2 (by unfold bytes_Equal.f; rw [bytes_same hx hy])).mono ?_
  rintro e w' ⟨rfl, k, rfl⟩
  exact ⟨rfl, pw_below_drewN (Below.refl _ _) _⟩
def zRC : Array Value := (noRC.V none 0).toArray
theorem zRC_size : zRC.size = 34 := by unfold zRC; simpa using RC.V_len noRC_ok none 0
theorem zRC_all : zRC.all (·.oneCell') = true := RC.V_all noRC none 0
set_option maxRecDepth 100000 in
theorem built26z : Tryd.prog.built 26 [] = some zRC := by unfold zRC; kernel_rfl
theorem byte_cell {w : World} {ad : Addr} {m : Nat} {b : List Int} (hC : (Kd.int .u8).C w (some ad) m b) (i : Nat) (hi : i < b.length) : w.cell? (ad.add i) = some (.int .u8 (b.getD i 0)) := by
  refine C_cells hC i _ ?_
  unfold nums
  rw [List.getElem?_map, List.getElem?_eq_getElem hi, List.getD_eq_getElem?_getD, List.getElem?_eq_getElem hi]
  rfl
set_option maxHeartbeats 8000000 in
set_option maxRecDepth 100000 in
theorem decode17_early (b : List Int) (hb : bytes_ b) (m : Nat) (hm : b.length = m) (A : Option Addr) (c : Nat) (w : World) (hC : (Kd.int .u8).C w A m b) (he : m ≠ 512 ∨ b.getD 44 0 < 1 ∨ 8 < b.getD 44 0) :
    Calls Tryd.prog 25 #[.slice A m c] w fun e w' => e = .returned (.tuple #[.agg zRC, .bool false]) ∧ Below w.heap.size w w' := by
  have HS0 := Aside0.mk (Sep.refl w)
  have hz := (zero_of_info (P := Tryd.prog) (t := 26) (v := .agg zRC) (n := 34) (by unfold zRC; kernel_rfl)).1
  have HSZ := Aside0.mk (show (Tryd.prog.info? 26).map (·.size) = some zRC.size from size26 zRC_size)
  have HZA := Aside0.mk zRC_all
  have HCB := Aside0.mk (fun W (hw : Below w.heap.size w W) => Kd.C_below hC hw)
  have hm63 : (m : Int) ≤ 9223372036854775807 := by have := hC.2.1; omega
  have HM := Aside0.mk hm
  generalize zRC = Z at hz HSZ HZA ⊢
  by_cases h5 : m = 512
  · subst h5
    obtain ⟨ad, rfl, _⟩ := hC.2.2 (by decide)
    have x44 := byte_cell hC 44 (by omega)
    generalize b.getD 44 0 = q at he x44
    have HX := Aside0.mk (fun W (hb : Below w.heap.size w W) => pw_cell_below hb x44)
    clear hC hm x44
    by_cases h1 : q < 1
    · have t1 : decide (q < 1) = true := decide_eq_true h1
      clear he
      go_enter Tryd.func25, Tryd.ntmps25
      go_upto_region 1 with (fail)
      have HS1 := Aside0.mk (HS0.out.push_alloc Z 26)
      generalize w.alloc (.cells Z 26) = w1 at HS1 ⊢
      generalize w.heap.size = g2 at HS1 ⊢
      go_upto_region 2 with (fail)
      have HS2 := Aside0.mk (HS1.out.push_alloc Z 26)
      generalize w1.alloc (.cells Z 26) = w2 at HS2 ⊢
      generalize w1.heap.size = g4 at HS2 ⊢
      have x44 := HX.out _ HS2.out.below
      rw [addr44] at x44
      clear hz
      go_wp2_with (first
        | ((with_reducible refine gate_load (ty := 26) rfl ?_); refine wpList_ldw ?_ 26 _ rfl ⟨g4, 0, none⟩ ?_ Z _ (fun j v hv => seg_at (cs := Z.toList) HS2.out.cells.1 0 Z.toList (by rw [List.drop_zero]; exact List.take_of_length_le (Nat.le_refl _)) j v hv) Tryd.underlying26 rfl HSZ.out ?_; exact rfl; exact rfl; skip)
        | ((with_reducible refine gate_store (ty := 26) rfl ?_); refine Sep.store_own rfl 26 _ _ rfl rfl rfl HS2.out.up1 HSZ.out rfl HZA.out ?_; intro w3 h3; have HS3 := Aside0.mk h3; clear h3))
      refine bodyPost_ret (results_row_tmp (p := 2) (u := 3) (ty := 26) rfl _ _ g2 26 Z (0, 0) _ _ rfl rfl HS3.out.cells.1 Tryd.underlying26 rfl HSZ.out) rfl ⟨rfl, HS3.out.below⟩
    · have h8 : 8 < q := by omega
      have t1 : decide (q < 1) = false := decide_eq_false h1
      have t2 : decide (8 < q) = true := decide_eq_true h8
      clear he
      go_enter Tryd.func25, Tryd.ntmps25
      go_upto_region 1 with (fail)
      have HS1 := Aside0.mk (HS0.out.push_alloc Z 26)
      generalize w.alloc (.cells Z 26) = w1 at HS1 ⊢
      generalize w.heap.size = g2 at HS1 ⊢
      go_upto_region 2 with (fail)
      have HS2 := Aside0.mk (HS1.out.push_alloc Z 26)
      generalize w1.alloc (.cells Z 26) = w2 at HS2 ⊢
      generalize w1.heap.size = g4 at HS2 ⊢
      have x44 := HX.out _ HS2.out.below
      rw [addr44] at x44
      clear hz
      go_wp2_with (first
        | ((with_reducible refine gate_load (ty := 26) rfl ?_); refine wpList_ldw ?_ 26 _ rfl ⟨g4, 0, none⟩ ?_ Z _ (fun j v hv => seg_at (cs := Z.toList) HS2.out.cells.1 0 Z.toList (by rw [List.drop_zero]; exact List.take_of_length_le (Nat.le_refl _)) j v hv) Tryd.underlying26 rfl HSZ.out ?_; exact rfl; exact rfl; skip)
        | ((with_reducible refine gate_store (ty := 26) rfl ?_); refine Sep.store_own rfl 26 _ _ rfl rfl rfl HS2.out.up1 HSZ.out rfl HZA.out ?_; intro w3 h3; have HS3 := Aside0.mk h3; clear h3))
      refine bodyPost_ret (results_row_tmp (p := 2) (u := 3) (ty := 26) rfl _ _ g2 26 Z (0, 0) _ _ rfl rfl HS3.out.cells.1 Tryd.underlying26 rfl HSZ.out) rfl ⟨rfl, HS3.out.below⟩
  · have t0 : ¬ (m : Int) = 512 := by omega
    clear hC he hm
    go_enter Tryd.func25, Tryd.ntmps25
    go_upto_region 1 with (fail)
    have HS1 := Aside0.mk (HS0.out.push_alloc Z 26)
    generalize w.alloc (.cells Z 26) = w1 at HS1 ⊢
    generalize w.heap.size = g2 at HS1 ⊢
    go_upto_region 2 with (fail)
    have HS2 := Aside0.mk (HS1.out.push_alloc Z 26)
    generalize w1.alloc (.cells Z 26) = w2 at HS2 ⊢
    generalize w1.heap.size = g4 at HS2 ⊢
    clear hz
    go_wp2_with (first
      | ((with_reducible refine gate_load (ty := 26) rfl ?_); refine wpList_ldw ?_ 26 _ rfl ⟨g4, 0, none⟩ ?_ Z _ (fun j v hv => seg_at (cs := Z.toList) HS2.out.cells.1 0 Z.toList (by rw [List.drop_zero]; exact List.take_of_length_le (Nat.le_refl _)) j v hv) Tryd.underlying26 rfl HSZ.out ?_; exact rfl; exact rfl; skip)
      | ((with_reducible refine gate_store (ty := 26) rfl ?_); refine Sep.store_own rfl 26 _ _ rfl rfl rfl HS2.out.up1 HSZ.out rfl HZA.out ?_; intro w3 h3; have HS3 := Aside0.mk h3; clear h3))
    refine bodyPost_ret (results_row_tmp (p := 2) (u := 3) (ty := 26) rfl _ _ g2 26 Z (0, 0) _ _ rfl rfl HS3.out.cells.1 Tryd.underlying26 rfl HSZ.out) rfl ⟨rfl, HS3.out.below⟩
end Go.Proofs.YtagodmmpkapgnaaDoor.M

namespace Go.Proofs.YtagodmmpkapgnaaDoor.M
open Go.RowKit Go.Maps Go.Proofs.YtagodmmpkapgnaaDoorW.PrintWords Go.Proofs.YtagodmmpkapgnaaDoorW.PrintLast Go.Proofs.YtagodmmpkapgnaaDoorW.PrintMore Go.Proofs.YtagodmmpkapgnaaDoor.Wr Go.Proofs.YtagodmmpkapgnaaDoor.Pl Go.Proofs.YtagodmmpkapgnaaDoor.P Go.Proofs.YtagodmmpkapgnaaDoor.A
set_option linter.unusedVariables false
set_option linter.unusedSimpArgs false
theorem zRC_fill (ky : List Int) : zRC = (RC.V ⟨0, fillK ky 0, []⟩ none 0).toArray := rfl
theorem zRF_fill (ky : List Int) : zRF.V = refV (fillK ky 0) 0 0 := rfl
theorem rc_cell0 {w0 w : World} {L : List Th} {g : Nat} {n : Int} {p : List Int} {r : List RF} {A : Option Addr} {c : Nat} (h : Sep w0 w (cellsT g (RC.V ⟨n, p, r⟩ A c).toArray 26 :: L)) : w.cell? ⟨g, 0, none⟩ = some (.int .i64 n) := cell_at (cs := RC.V ⟨n, p, r⟩ A c) h.cells.1 0 rfl
theorem rc_cell33 {w0 w : World} {L : List Th} {g : Nat} {n : Int} {p : List Int} (hp : p.length = 32) {r : List RF} {A : Option Addr} {c m : Nat} (hm : r.length = m) (h : Sep w0 w (cellsT g (RC.V ⟨n, p, r⟩ A c).toArray 26 :: L)) : w.cell? ⟨g, 33, none⟩ = some (.slice A m c) := by
  subst hm
  refine cell_at (cs := RC.V ⟨n, p, r⟩ A c) h.cells.1 33 ?_
  unfold RC.V
  rw [show 33 = 1 + 32 from rfl, get_drop]
  show (nums .u8 p ++ [Value.slice A r.length c])[32]? = _
  rw [List.getElem?_append_right (by rw [nums_length, hp]; exact Nat.le_refl _), nums_length, hp]
  rfl
theorem rc_sz {n : Int} {p : List Int} (hp : p.length = 32) {r : List RF} {A : Option Addr} {c : Nat} : (RC.V ⟨n, p, r⟩ A c).toArray.size = 34 := by
  unfold RC.V
  simp [nums_length, hp]
theorem rf_sz {h : List Int} (hh : h.length = 32) {f l : Int} : (refV h f l).toArray.size = 34 := by simpa using refV_len hh f l
theorem gate_build {P : Program} {ops : Array Oper} {rest : List Oper} {o : Oper} {a : Act} {w : World} {Q : Exit → Act → World → Prop} {ty : TypeId} {ps : Array (Nat × Operand)} (_ho : o.op = .build ty ps) (h : wpList P ops Q (o :: rest) a w) : wpList P ops Q (o :: rest) a w := h
set_option maxHeartbeats 16000000 in
set_option maxRecDepth 100000 in
theorem decode17_run (b : List Int) (hb : bytes_ b) (hm : b.length = 512) (A : Option Addr) (c : Nat) (hc : 512 ≤ c) (w : World) (hC : (Kd.int .u8).C w A 512 b) (h1 : 1 ≤ b.getD 44 0) (h8 : b.getD 44 0 ≤ 8) (s : RC) (hs : readJ b = s) :
    Calls Tryd.prog 25 #[.slice A 512 c] w fun e w' => (errJ s = 0 ∧ encJ s = b → ∃ A' c', e = .returned (.tuple #[.agg (s.V A' c').toArray, .bool true]) ∧ Sep w w' [ownT kRF 69 (.slice A' s.r.length c') s.r]) ∧ (¬ (errJ s = 0 ∧ encJ s = b) → e = .returned (.tuple #[.agg zRC, .bool false]) ∧ Below w.heap.size w w') := by
  have HS0 := Aside0.mk (Sep.refl w)
  have HOK := Aside0.mk (show s.Ok from hs ▸ readJ_ok hm hb)
  have HRJ := Aside0.mk (show s = ⟨numAt b 4 8, keyAt b 12, refsAt b (cntJ b)⟩ from hs ▸ rfl)
  have HCN := Aside0.mk (show (cntJ b : Int) = b.getD 44 0 ∧ 1 ≤ cntJ b ∧ cntJ b ≤ 8 from by unfold cntJ; omega)
  have HRO := Aside0.mk (fun i (hi : i < 8) => rfAt_ok hm hb hi)
  have hz := (zero_of_info (P := Tryd.prog) (t := 26) (v := .agg zRC) (n := 34) (by unfold zRC; kernel_rfl)).1
  have hz2 := (zero_of_info (P := Tryd.prog) (t := 69) (v := .agg zRF.V.toArray) (n := 34) (by kernel_rfl)).1
  have HSZ := Aside0.mk (show (Tryd.prog.info? 26).map (·.size) = some zRC.size from size26 zRC_size)
  have HZA := Aside0.mk zRC_all
  have HCB := Aside0.mk (fun W (hw : Below w.heap.size w W) => Kd.C_below hC hw)
  have HNU := Aside0.mk (fun W (hw : Below w.heap.size w W) p n P N hP hN h8 hp => num71 (Kd.C_below hC hw) hm hc hb p n P N hP hN h8 hp (by decide))
  have HBM := Aside0.mk (And.intro hb hm)
  have HCc := Aside0.mk hc
  obtain ⟨ad, rfl, _⟩ := hC.2.2 (by decide)
  have HBC := Aside0.mk (fun W (hw : Below w.heap.size w W) i (hi : i < 512) => byte_cell (Kd.C_below hC hw) i (by omega))
  have HZF := Aside0.mk (fun ky => zRC_fill ky)
  have HRF := Aside0.mk (fun ky => zRF_fill ky)
  have HKL := Aside0.mk (keyAt_len hm (p := 12) (by decide))
  generalize zRC = Z at hz HSZ HZA HZF ⊢
  generalize hZF : zRF.V.toArray = ZF at hz2
  have HZR := Aside0.mk (show ∀ ky, ZF = (refV (fillK ky 0) 0 0).toArray from fun ky => by rw [← hZF]; exact congrArg List.toArray (zRF_fill ky))
  generalize hq : b.getD 44 0 = q at HCN h1 h8
  have HQ := Aside0.mk hq
  generalize hn : cntJ b = n at HCN HRJ
  have t1 : decide (q < 1) = false := decide_eq_false (by omega)
  have t2 : decide (8 < q) = false := decide_eq_false (by omega)
  have HN4 := Aside0.mk (fun W hw => HNU.out W hw 4 8 4 8 rfl rfl (by decide) (by decide))
  generalize hn0 : numAt b 4 8 = n0 at HN4 HRJ
  generalize hky : keyAt b 12 = ky at HRJ HKL
  have HKY := Aside0.mk hky
  clear hC hm hb hq hn hn0 hky hZF hc hs
  go_enter Tryd.func25, Tryd.ntmps25
  go_upto_region 1 with (fail)
  have HS1 := Aside0.mk (HS0.out.push_alloc Z 26)
  generalize w.alloc (.cells Z 26) = w1 at HS1 ⊢
  generalize w.heap.size = g2 at HS1 ⊢
  go_upto_region 2 with (fail)
  have HS2 := Aside0.mk (show Sep w (w1.alloc (.cells Z 26)) (cellsT w1.heap.size (RC.V ⟨0, fillK ky 0, []⟩ none 0).toArray 26 :: cellsT g2 Z 26 :: []) from by rw [← HZF.out ky]; exact HS1.out.push_alloc Z 26)
  generalize w1.alloc (.cells Z 26) = w2 at HS2 ⊢
  generalize w1.heap.size = g4 at HS2 ⊢
  have x44 : w2.cell? ⟨ad.block, ad.off + 44, none⟩ = some (.int .u8 q) := by
    have h := HBC.out _ HS2.out.below 44 (by decide)
    rwa [addr44, HQ.out] at h
  go_upto_region 4 with (fail)
  clear x44 HS0 HS1 hz
  go_upto_region 5 with (go_at_call 71; (with_reducible refine (HN4.out _ HS2.out.below).mono ?_); rintro e w3 ⟨rfl, hb⟩; have HS3 := Aside0.mk (HS2.out.step hb); have x0 := rc_cell0 HS3.out; have f0 := blk_frozen HS3.out.cells.1 0; clear hb)
  have HS4 := Aside0.mk (show Sep w (w3.setCell ⟨g4, 0, none⟩ (.int .i64 n0)) (cellsT g4 (RC.V ⟨n0, fillK ky 0, []⟩ none 0).toArray 26 :: cellsT g2 Z 26 :: []) from by
    have h := HS3.out.cset 0 (.int .i64 n0)
    rwa [RC.set0] at h)
  clear x0 f0 HS2 HS3
  generalize w3.setCell ⟨g4, 0, none⟩ (.int .i64 n0) = w4 at HS4 ⊢
  go_upto_region 6 with (fail)
  go_loopg [5] 32 (fun kq v5 wr => ∃ i : Nat, v5 = .int .i64 i ∧ Aside0 (i + kq = 32) ∧ Aside0 (Sep w wr (cellsT g4 (RC.V ⟨n0, fillK ky i, []⟩ none 0).toArray 26 :: cellsT g2 Z 26 :: [])))
  case atStart => exact ⟨0, rfl, ⟨rfl⟩, HS4⟩
  case round =>
    obtain ⟨i, rfl, HJ, hS⟩ := hrel
    clear HS4
    by_cases hi : i < 32
    · have hi1 : (i : Int) < 32 := by omega
      have t0 : decide ((i : Int) < 32) = true := decide_eq_true hi1
      have HI := Aside0.mk hi
      have x0 : wr.cell? (ad.add (12 + i)) = some (.int .u8 (ky.getD i 0)) := by
        have h := HBC.out _ hS.out.below (12 + i) (by omega)
        rwa [show b.getD (12 + i) 0 = ky.getD i 0 from by rw [← HKY.out]; unfold keyAt; rw [List.getD_eq_getElem?_getD, List.getD_eq_getElem?_getD, List.getElem?_take, if_pos hi, List.getElem?_drop]] at h
      have x1 : wr.frozen? ⟨g4, 1 + i, none⟩ = false := blk_frozen hS.out.cells.1 (1 + i)
      obtain ⟨u, x2⟩ := cell_any0 hS.out.cells.1 (1 + i) (by rw [rc_sz (fillK_len HKL.out (by omega))]; omega)
      go_wp2
      go_roundg (32 - (i + 1))
      case measure => have := HJ.out; have := HI.out; omega
      case rel => exact ⟨i + 1, rfl, ⟨by have := HJ.out; have := HI.out; omega⟩, ⟨by
        have h := hS.out.cset (1 + i) (.int .u8 (ky.getD i 0))
        rwa [RC.setk _ _ (fillK_len HKL.out (Nat.le_of_lt HI.out)) _ _ _ _ HI.out, fillK_step HKL.out HI.out] at h⟩⟩
    · have hi3 : i = 32 := by have := HJ.out; omega
      have t0 : decide ((i : Int) < 32) = false := decide_eq_false (by omega)
      have HS5 := Aside0.mk (show Sep w wr (cellsT g4 (RC.V ⟨n0, ky, []⟩ none 0).toArray 26 :: cellsT g2 Z 26 :: []) from by
        have h := hS.out
        rwa [hi3, fillK_all HKL.out] at h)
      clear hS hi3 hi
      go_upto_region 9 with (fail)
      go_upto_region 10 with (fail)
      go_loopg [6] n (fun kq v6 wr => ∃ i : Nat, v6 = .int .i64 i ∧ Aside0 (i + kq = n) ∧ Aside0 (∃ Ar cr, Sep w wr (cellsT g4 (RC.V ⟨n0, ky, refsAt b i⟩ Ar cr).toArray 26 :: ownT kRF 69 (.slice Ar i cr) (refsAt b i) :: cellsT g2 Z 26 :: [])))
      case atStart => exact ⟨0, rfl, ⟨by omega⟩, ⟨none, 0, (HS5.out.push_nil kRF 69).up1⟩⟩
      case round =>
        obtain ⟨i, rfl, HJ, hS⟩ := hrel
        clear HS5
        obtain ⟨Ar, cr, hS⟩ := hS.out
        have HS := Aside0.mk hS
        clear hS
        have x44 : wr.cell? ⟨ad.block, ad.off + 44, none⟩ = some (.int .u8 q) := by
          have h := HBC.out _ HS.out.below 44 (by decide)
          rwa [addr44, HQ.out] at h
        have hqn : q = (n : Int) := HCN.out.1.symm
        subst hqn
        by_cases hi : i < n
        · have t0 : decide ((i : Int) < (n : Int)) = true := decide_eq_true (by omega)
          have hi1 : (i : Int) < (n : Int) := by omega
          have hi8 : (i : Int) < 8 := by omega
          have HI := Aside0.mk hi
          have HI8 := Aside0.mk (show i < 8 by omega)
          have hx := HRO.out i HI8.out
          have HX := Aside0.mk hx
          have HSN := Aside0.mk (refsAt_snoc b i)
          have HXV := Aside0.mk (show rfAt b i = ⟨keyAt b (45 + 40 * i), numAt b (45 + 40 * i + 32) 4, numAt b (45 + 40 * i + 36) 4⟩ from rfl)
          have HNf := Aside0.mk (fun W hw => HNU.out W hw (45 + 40 * i + 32) 4 (45 + 40 * (i : Int) + 32) 4 (by omega) rfl (by decide) (by omega))
          have HNl := Aside0.mk (fun W hw => HNU.out W hw (45 + 40 * i + 36) 4 (45 + 40 * (i : Int) + 36) 4 (by omega) rfl (by decide) (by omega))
          generalize numAt b (45 + 40 * i + 32) 4 = xf at HXV HNf
          generalize numAt b (45 + 40 * i + 36) 4 = xl at HXV HNl
          have HKX := Aside0.mk (fun j (hj : j < 32) => (show b.getD (45 + 40 * i + j) 0 = (keyAt b (45 + 40 * i)).getD j 0 from by
            unfold keyAt
            rw [List.getD_eq_getElem?_getD, List.getD_eq_getElem?_getD, List.getElem?_take, if_pos hj, List.getElem?_drop]))
          generalize keyAt b (45 + 40 * i) = kx at HXV HKX
          have HXL := Aside0.mk (show kx.length = 32 from by have h := HX.out.k; rwa [HXV.out] at h)
          clear hx
          go_upto_region 13 with (fail)
          have HS6 := Aside0.mk (show Sep w (wr.alloc (.cells ZF 69)) (cellsT wr.heap.size (refV (fillK kx 0) 0 0).toArray 69 :: cellsT g4 (RC.V ⟨n0, ky, refsAt b i⟩ Ar cr).toArray 26 :: ownT kRF 69 (.slice Ar i cr) (refsAt b i) :: cellsT g2 Z 26 :: []) from by rw [← HZR.out kx]; exact HS.out.push_alloc ZF 69)
          generalize wr.alloc (.cells ZF 69) = w5 at HS6 ⊢
          generalize wr.heap.size = g7 at HS6 ⊢
          clear x44 HS
          go_upto_region 14 with (fail)
          go_upto_region 15 with (fail)
          go_loopg [9] 32 (fun kq v9 wq => ∃ j : Nat, v9 = .int .i64 j ∧ Aside0 (j + kq = 32) ∧ Aside0 (Sep w wq (cellsT g7 (refV (fillK kx j) 0 0).toArray 69 :: cellsT g4 (RC.V ⟨n0, ky, refsAt b i⟩ Ar cr).toArray 26 :: ownT kRF 69 (.slice Ar i cr) (refsAt b i) :: cellsT g2 Z 26 :: [])))
          case atStart => exact ⟨0, rfl, ⟨rfl⟩, HS6⟩
          case round =>
            obtain ⟨j, rfl, HJ2, hS⟩ := hrel
            clear HS6
            by_cases hj : j < 32
            · have hj1 : (j : Int) < 32 := by omega
              have t3 : decide ((j : Int) < 32) = true := decide_eq_true hj1
              have HI2 := Aside0.mk hj
              have x0 := HBC.out _ hS.out.below (45 + 40 * i + j) (by omega)
              rw [HKX.out j hj] at x0
              have x1 := blk_frozen hS.out.cells.1 j
              obtain ⟨u, x2⟩ := cell_any0 hS.out.cells.1 j (by rw [rf_sz (fillK_len HXL.out (by omega))]; omega)
              go_wp2
              go_roundg (32 - (j + 1))
              case measure => have := HJ2.out; have := HI2.out; omega
              case rel => exact ⟨j + 1, rfl, ⟨by have := HJ2.out; have := HI2.out; omega⟩, ⟨by
                have h := hS.out.cset j (.int .u8 (kx.getD j 0))
                rwa [RF.setk _ (fillK_len HXL.out (Nat.le_of_lt HI2.out)) _ _ _ HI2.out, fillK_step HXL.out HI2.out] at h⟩⟩
            · have hj3 : j = 32 := by have := HJ2.out; omega
              have t3 : decide ((j : Int) < 32) = false := decide_eq_false (by omega)
              have HS7 := Aside0.mk (show Sep w _ (cellsT g7 (refV kx 0 0).toArray 69 :: cellsT g4 (RC.V ⟨n0, ky, refsAt b i⟩ Ar cr).toArray 26 :: ownT kRF 69 (.slice Ar i cr) (refsAt b i) :: cellsT g2 Z 26 :: []) from by
                have h := hS.out
                rwa [hj3, fillK_all HXL.out] at h)
              clear hS hj3 hj
              go_upto_region 19 with (go_at_call 71; (with_reducible refine (HNf.out _ HS7.out.below).mono ?_); rintro e w6 ⟨rfl, hb⟩; have HS8 := Aside0.mk (HS7.out.step hb); have y0 := cell_at (cs := refV kx 0 0) HS8.out.cells.1 32 (by have := refV_f HXL.out 0 0 []; rwa [List.append_nil] at this); have f0 := blk_frozen HS8.out.cells.1 32; clear hb)
              have HS9 := Aside0.mk (show Sep w (w6.setCell ⟨g7, 32, none⟩ (.int .i64 xf)) (cellsT g7 (refV kx xf 0).toArray 69 :: cellsT g4 (RC.V ⟨n0, ky, refsAt b i⟩ Ar cr).toArray 26 :: ownT kRF 69 (.slice Ar i cr) (refsAt b i) :: cellsT g2 Z 26 :: []) from by
                have h := HS8.out.cset 32 (.int .i64 xf)
                rwa [RF.set32 _ HXL.out] at h)
              clear y0 f0 HS7 HS8
              generalize w6.setCell ⟨g7, 32, none⟩ (.int .i64 xf) = w7 at HS9 ⊢
              go_upto_region 20 with (go_at_call 71; (with_reducible refine (HNl.out _ HS9.out.below).mono ?_); rintro e w8 ⟨rfl, hb⟩; have HSa := Aside0.mk (HS9.out.step hb); have y0 := cell_at (cs := refV kx xf 0) HSa.out.cells.1 33 (by have := refV_l HXL.out xf 0 []; rwa [List.append_nil] at this); have f0 := blk_frozen HSa.out.cells.1 33; clear hb)
              have HSb := Aside0.mk (show Sep w (w8.setCell ⟨g7, 33, none⟩ (.int .i64 xl)) (cellsT g7 (rfAt b i).V.toArray 69 :: cellsT g4 (RC.V ⟨n0, ky, refsAt b i⟩ Ar cr).toArray 26 :: ownT kRF 69 (.slice Ar i cr) (refsAt b i) :: cellsT g2 Z 26 :: []) from by
                have h := HSa.out.cset 33 (.int .i64 xl)
                rw [RF.set33 _ HXL.out] at h
                rw [HXV.out]
                exact h)
              clear y0 f0 HS9 HSa HXV
              generalize w8.setCell ⟨g7, 33, none⟩ (.int .i64 xl) = w9 at HSb ⊢
              generalize rfAt b i = x at HSb HX HSN
              have HLX := Aside0.mk (show (Tryd.prog.info? 69).map (·.size) = some x.V.toArray.size from size69 (by simpa using RF.V_len HX.out))
              have HRL := Aside0.mk (show (refsAt b i).length = i from refsAt_len b i)
              have HXV := Aside0.mk (show x.V.toArray.size = 34 from by simpa using RF.V_len HX.out)
              have z0 := rc_cell33 HKL.out (refsAt_len b i) HSb.out.up1
              generalize refsAt b i = rs at HSb HSN HRL
              go_wp2_with (first
                | ((with_reducible refine gate_load (ty := 69) rfl ?_); refine wpList_ldw ?_ 69 _ rfl ⟨g7, 0, none⟩ ?_ x.V.toArray _ (fun j v hv => seg_at (cs := x.V) HSb.out.cells.1 0 x.V (by rw [List.drop_zero]; exact List.take_of_length_le (Nat.le_refl _)) j v (by simpa using hv)) Tryd.underlying69 rfl HLX.out ?_; exact rfl; exact rfl; skip)
                | ((with_reducible refine gate_bs (ty := 24) rfl ?_); refine wpList_bs69 rfl _ rfl x.V.toArray rfl HXV.out ?_)
                | ((with_reducible refine gate_builtin (b := .append) (xs := #[.tmp 78, .tmp 80]) rfl ?_); refine Sep.app_ref rfl _ _ rfl x HX.out rfl rfl HSb.out.up2 ?aL ?_; (case aL => have := HRL.out; omega); intro v1 wa ha; obtain ⟨A1, c1, hv⟩ := ha.own_slice; rw [show (rs ++ [x]).length = i + 1 from by rw [List.length_append, HRL.out]; rfl] at hv; subst hv; have HSc := Aside0.mk ha; have z1 := rc_cell33 HKL.out HRL.out HSc.out.up2; have z2 := blk_frozen HSc.out.up2.cells.1 33; clear ha))
              have HSd := Aside0.mk (show Sep w (wa.setCell ⟨g4, 33, none⟩ (.slice A1 (i + 1) c1)) (cellsT g4 (RC.V ⟨n0, ky, rs ++ [x]⟩ A1 c1).toArray 26 :: ownT kRF 69 (.slice A1 (i + 1) c1) (rs ++ [x]) :: cellsT g2 Z 26 :: []) from by
                have h := HSc.out.up2.cset 33 (.slice A1 (i + 1) c1)
                rw [RC.set33 n0 ky HKL.out rs (rs ++ [x]) _ A1 _ c1 (i + 1) (by rw [List.length_append, HRL.out]; rfl)] at h
                exact h.sel 4 [0, 1, 3] _ rfl (by decide) rfl)
              clear z0 z1 z2 HSb HSc
              generalize wa.setCell ⟨g4, 33, none⟩ (.slice A1 (i + 1) c1) = wb at HSd ⊢
              go_roundg (n - (i + 1))
              case measure => have := HJ.out; have := HI.out; omega
              case rel => exact ⟨i + 1, rfl, ⟨by have := HJ.out; have := HI.out; omega⟩, ⟨A1, c1, by rw [HSN.out]; exact HSd.out⟩⟩
        · have hi3 : i = n := by have := HJ.out; omega
          have t0 : decide ((i : Int) < (n : Int)) = false := decide_eq_false (by omega)
          subst hi3
          have HSe := Aside0.mk (show Sep w wr (cellsT g4 (s.V Ar cr).toArray 26 :: ownT kRF 69 (.slice Ar i cr) s.r :: cellsT g2 Z 26 :: []) from by rw [HRJ.out]; exact HS.out)
          have HRn := Aside0.mk (show s.r.length = i from by rw [HRJ.out]; exact refsAt_len b i)
          clear HS HRJ
          have HCr := Aside0.mk (HSe.out.up1.own_C).1
          have HEY := Aside0.mk (fun (hm : errJ s = 0) => encode17_yes s HOK.out ((err_iff s).1 hm) Ar cr wr HCr.out)
          have HEX := Aside0.mk (fun (hm : ¬ errJ s = 0) => encode17_no s HOK.out hm Ar cr wr HCr.out)
          have HEB := Aside0.mk (fun (hm : errJ s = 0) => (show bytes_ (encJ s) ∧ (encJ s).length = 512 from ⟨bytes_encJ HOK.out ((err_iff s).1 hm).r8, encJ_len HOK.out ((err_iff s).1 hm).r8⟩))
          have HSV := Aside0.mk (RC.size HOK.out Ar cr)
          have HAV := Aside0.mk (RC.V_all s Ar cr)
          have HZN := Aside0.mk (show Z.size = (s.V Ar cr).toArray.size from by
            have h1 := HSZ.out
            have h2 := HSV.out
            rw [h1] at h2
            simpa using h2)
          have HBZ := Aside0.mk (show Tryd.prog.built 26 [] = some Z from by rw [HZF.out ky, ← zRC_fill ky]; exact built26z)
          generalize hV : (s.V Ar cr).toArray = V at HSe HEY HEX HSV HAV HZN
          have HV := Aside0.mk hV
          clear hV HCr
          have HLD := Aside0.mk (fun W (M : List Th) (h : Sep w W (cellsT g4 V 26 :: M)) => (show ∀ j v, V.toList[j]? = some v → W.cell? ((⟨g4, 0, none⟩ : Addr).add j) = some v from fun j v hv => seg_at (cs := V.toList) h.cells.1 0 V.toList (by rw [List.drop_zero]; exact List.take_of_length_le (Nat.le_refl _)) j v hv))
          by_cases hm : errJ s = 0
          · have HEB := Aside0.mk (HEB.out hm)
            have HM := Aside0.mk hm
            go_upto_region 22 with (first
              | ((with_reducible refine gate_load (ty := 26) rfl ?_); refine wpList_ldw ?_ 26 _ rfl ⟨g4, 0, none⟩ ?_ V _ (HLD.out _ _ HSe.out) Tryd.underlying26 rfl HSV.out ?_; exact rfl; exact rfl; skip)
              | (go_at_call 18; (with_reducible refine (HEY.out HM.out).mono ?_); rintro e w5 ⟨A5, c5, rfl, h5⟩; have HSf := Aside0.mk (HSe.out.then_ h5); clear h5))
            have HC5 := Aside0.mk (show (Kd.int .u8).C w5 A5 512 (encJ s) ∧ 512 ≤ c5 from by have h := HSf.out.own_C; rwa [HEB.out.2] at h)
            have HSM := Aside0.mk (same72 HC5.out.1 (HCB.out _ HSf.out.below) HEB.out.2 HBM.out.2 HC5.out.2 HCc.out HEB.out.1 HBM.out.1)
            clear x44 HSe HEY HEX
            by_cases hq : encJ s = b
            · have t3 : decide (encJ s = b) = true := decide_eq_true hq
              rw [t3] at HSM
              have HQQ := Aside0.mk hq
              clear hq t3
              go_wp2_with (first
                | (go_at_call 72; (with_reducible refine HSM.out.mono ?_); rintro e w6 ⟨rfl, hb⟩; have HSg := Aside0.mk (HSf.out.step hb); clear hb)
                | ((with_reducible refine gate_load (ty := 26) rfl ?_); refine wpList_ldw ?_ 26 _ rfl ⟨g4, 0, none⟩ ?_ V _ (HLD.out _ _ HSg.out.up1) Tryd.underlying26 rfl HSV.out ?_; exact rfl; exact rfl; skip)
                | ((with_reducible refine gate_store (ty := 26) rfl ?_); refine Sep.store_own rfl 26 _ _ rfl rfl rfl HSg.out.up3 HSV.out HZN.out HAV.out ?_; intro w7 h7; have HSh := Aside0.mk h7; clear h7))
              refine bodyPost_ret (results_row_tmp (p := 2) (u := 3) (ty := 26) rfl _ _ g2 26 V (0, 0) _ _ rfl rfl HSh.out.cells.1 Tryd.underlying26 rfl HSV.out) rfl ⟨fun _ => ⟨Ar, cr, by rw [HV.out]; rfl, ?_⟩, fun h => absurd ⟨HM.out, HQQ.out⟩ h⟩
              rw [HRn.out]
              exact HSh.out.sel 4 [3] _ rfl (by decide) rfl
            · have t3 : decide (encJ s = b) = false := decide_eq_false hq
              rw [t3] at HSM
              have HQQ := Aside0.mk hq
              clear hq t3
              go_wp2_with (first
                | (go_at_call 72; (with_reducible refine HSM.out.mono ?_); rintro e w6 ⟨rfl, hb⟩; have HSg := Aside0.mk (HSf.out.step hb); clear hb)
                | ((with_reducible refine gate_build (ty := 26) rfl ?_); refine wpList_buildTo rfl 26 _ rfl (some 96) rfl Z ?aB ?_; (case aB => (simp only [List.map_toArray, List.map_nil]; exact HBZ.out)))
                | ((with_reducible refine gate_store (ty := 26) rfl ?_); refine Sep.store_own rfl 26 _ _ rfl rfl rfl HSg.out.up3 HSZ.out rfl HZA.out ?_; intro w7 h7; have HSh := Aside0.mk h7; clear h7))
              refine bodyPost_ret (results_row_tmp (p := 2) (u := 3) (ty := 26) rfl _ _ g2 26 Z (0, 0) _ _ rfl rfl HSh.out.cells.1 Tryd.underlying26 rfl HSZ.out) rfl ⟨fun h => absurd h.2 HQQ.out, fun _ => ⟨rfl, HSh.out.below⟩⟩
          · have HM := Aside0.mk hm
            have HEX2 := Aside0.mk (HEX.out hm)
            have t3 : ¬ errJ s = 0 := hm
            go_upto_region 22 with (first
              | ((with_reducible refine gate_load (ty := 26) rfl ?_); refine wpList_ldw ?_ 26 _ rfl ⟨g4, 0, none⟩ ?_ V _ (HLD.out _ _ HSe.out) Tryd.underlying26 rfl HSV.out ?_; exact rfl; exact rfl; skip)
              | (go_at_call 18; (with_reducible refine HEX2.out.mono ?_); rintro e w5 ⟨rfl, hb⟩; have HSg := Aside0.mk (HSe.out.step hb); clear hb))
            clear x44 HSe HEY HEX
            go_wp2_with (first
              | ((with_reducible refine gate_build (ty := 26) rfl ?_); refine wpList_buildTo rfl 26 _ rfl (some 96) rfl Z ?aB ?_; (case aB => (simp only [List.map_toArray, List.map_nil]; exact HBZ.out)))
              | ((with_reducible refine gate_store (ty := 26) rfl ?_); refine Sep.store_own rfl 26 _ _ rfl rfl rfl HSg.out.up2 HSZ.out rfl HZA.out ?_; intro w7 h7; have HSh := Aside0.mk h7; clear h7))
            refine bodyPost_ret (results_row_tmp (p := 2) (u := 3) (ty := 26) rfl _ _ g2 26 Z (0, 0) _ _ rfl rfl HSh.out.cells.1 Tryd.underlying26 rfl HSZ.out) rfl ⟨fun h => absurd h.1 HM.out, fun _ => ⟨rfl, HSh.out.below⟩⟩
end Go.Proofs.YtagodmmpkapgnaaDoor.M

namespace Go.Proofs.YtagodmmpkapgnaaDoor.M
open Go.RowKit Go.Maps Go.Proofs.YtagodmmpkapgnaaDoorW.PrintWords Go.Proofs.YtagodmmpkapgnaaDoorW.PrintLast Go.Proofs.YtagodmmpkapgnaaDoorW.PrintMore Go.Proofs.YtagodmmpkapgnaaDoor.Wr Go.Proofs.YtagodmmpkapgnaaDoor.Pl Go.Proofs.YtagodmmpkapgnaaDoor.P Go.Proofs.YtagodmmpkapgnaaDoor.A
set_option linter.unusedVariables false
set_option linter.unusedSimpArgs false
theorem C_take4 {w : World} {ad : Addr} {b : List Int} (hC : (Kd.int .u8).C w (some ad) 512 b) : (Kd.int .u8).C w (some ad) 4 (b.take 4) :=
  ⟨by rw [List.length_take, hC.1]; rfl, by decide, fun _ => ⟨ad, rfl, fun j p hp => by
    obtain ⟨ad', e, h⟩ := hC.2.2 (by decide)
    cases e
    refine h j p ?_
    rw [List.getElem?_take] at hp
    split at hp
    · exact hp
    · cases hp⟩⟩
theorem bytes_magic : bytes_ magicJ := fun x hx => by simp [magicJ] at hx; omega
theorem magic_list : (strOfNums magicJ).toList = [119, 111, 114, 107] := by
  rw [strOfNums_toList]
  decide
set_option maxHeartbeats 8000000 in
set_option maxRecDepth 100000 in
theorem decode_early (b : List Int) (hb : bytes_ b) (m : Nat) (hm : b.length = m) (A : Option Addr) (c : Nat) (hc : m ≤ c) (w : World) (hC : (Kd.int .u8).C w A m b) (he : m ≠ 512 ∨ b.take 4 ≠ magicJ) :
    Calls Tryd.prog 24 #[.slice A m c] w fun e w' => e = .returned (.tuple #[.agg zRC, .int .i64 61]) ∧ Below w.heap.size w w' := by
  have HS0 := Aside0.mk (Sep.refl w)
  have hz := (zero_of_info (P := Tryd.prog) (t := 26) (v := .agg zRC) (n := 34) (by unfold zRC; kernel_rfl)).1
  have HSZ := Aside0.mk (show (Tryd.prog.info? 26).map (·.size) = some zRC.size from size26 zRC_size)
  have HBZ := Aside0.mk built26z
  have HZA := Aside0.mk zRC_all
  have hm63 : (m : Int) ≤ 9223372036854775807 := by have := hC.2.1; omega
  generalize zRC = Z at hz HSZ HZA HBZ ⊢
  by_cases h5 : m = 512
  · subst h5
    obtain ⟨ad, rfl, _⟩ := hC.2.2 (by decide)
    have HCV := Aside0.mk (fun W (hb : Below w.heap.size w W) => (show (convert 29 9 (.slice (some ad) 4 c)).run Tryd.prog W = .ok (.string (strOfNums (b.take 4))) W from Kd.C_string (P := Tryd.prog) Tryd.underlying29 Tryd.underlying5 Tryd.underlying9 (Kd.C_below (C_take4 hC) hb)))
    have hne : ((strOfNums (b.take 4)).toList == [119, 111, 114, 107]) = false := by
      have h := bytes_same (bytes_take hb 4) bytes_magic
      rw [magic_list] at h
      rw [h]
      exact decide_eq_false (by simpa using he)
    have hc4 : (4 : Int) ≤ (c : Int) := by omega
    generalize strOfNums (b.take 4) = sb at HCV hne
    clear hC he hm
    go_enter Tryd.func24, Tryd.ntmps24
    go_upto_region 1 with (fail)
    have HS2 := Aside0.mk (HS0.out.push_alloc Z 26)
    generalize w.alloc (.cells Z 26) = w2 at HS2 ⊢
    generalize w.heap.size = g2 at HS2 ⊢
    have hcv := HCV.out _ HS2.out.below
    clear hz
    go_wp2_with (first
      | ((with_reducible refine gate_build (ty := 26) rfl ?_); refine wpList_buildTo rfl 26 _ rfl (some 18) rfl Z ?aB ?_; (case aB => (simp only [List.map_toArray, List.map_nil]; exact HBZ.out)))
      | ((with_reducible refine gate_store (ty := 26) rfl ?_); refine Sep.store_own rfl 26 _ _ rfl rfl rfl HS2.out HSZ.out rfl HZA.out ?_; intro w3 h3; have HS3 := Aside0.mk h3; clear h3))
    refine bodyPost_ret (results_row_tmp (p := 2) (u := 3) (ty := 26) rfl _ _ g2 26 Z (0, 0) _ _ rfl rfl HS3.out.cells.1 Tryd.underlying26 rfl HSZ.out) rfl ⟨rfl, HS3.out.below⟩
  · have t0 : ¬ (m : Int) = 512 := by omega
    clear hC he hm
    go_enter Tryd.func24, Tryd.ntmps24
    go_upto_region 1 with (fail)
    have HS2 := Aside0.mk (HS0.out.push_alloc Z 26)
    generalize w.alloc (.cells Z 26) = w2 at HS2 ⊢
    generalize w.heap.size = g2 at HS2 ⊢
    clear hz
    go_wp2_with (first
      | ((with_reducible refine gate_build (ty := 26) rfl ?_); refine wpList_buildTo rfl 26 _ rfl (some 18) rfl Z ?aB ?_; (case aB => (simp only [List.map_toArray, List.map_nil]; exact HBZ.out)))
      | ((with_reducible refine gate_store (ty := 26) rfl ?_); refine Sep.store_own rfl 26 _ _ rfl rfl rfl HS2.out HSZ.out rfl HZA.out ?_; intro w3 h3; have HS3 := Aside0.mk h3; clear h3))
    refine bodyPost_ret (results_row_tmp (p := 2) (u := 3) (ty := 26) rfl _ _ g2 26 Z (0, 0) _ _ rfl rfl HS3.out.cells.1 Tryd.underlying26 rfl HSZ.out) rfl ⟨rfl, HS3.out.below⟩
end Go.Proofs.YtagodmmpkapgnaaDoor.M

namespace Go.Proofs.YtagodmmpkapgnaaDoor.M
open Go.RowKit Go.Maps Go.Proofs.YtagodmmpkapgnaaDoorW.PrintWords Go.Proofs.YtagodmmpkapgnaaDoorW.PrintLast Go.Proofs.YtagodmmpkapgnaaDoorW.PrintMore Go.Proofs.YtagodmmpkapgnaaDoor.Wr Go.Proofs.YtagodmmpkapgnaaDoor.Pl Go.Proofs.YtagodmmpkapgnaaDoor.P Go.Proofs.YtagodmmpkapgnaaDoor.A
set_option linter.unusedVariables false
set_option linter.unusedSimpArgs false
theorem list32 (l : List Int) (h : l.length = 32) : ∃ x0 x1 x2 x3 x4 x5 x6 x7 x8 x9 x10 x11 x12 x13 x14 x15 x16 x17 x18 x19 x20 x21 x22 x23 x24 x25 x26 x27 x28 x29 x30 x31 : Int, l = [x0, x1, x2, x3, x4, x5, x6, x7, x8, x9, x10, x11, x12, x13, x14, x15, x16, x17, x18, x19, x20, x21, x22, x23, x24, x25, x26, x27, x28, x29, x30, x31] := by
  rcases l with _ | ⟨x0, l⟩
  · simp at h
  rcases l with _ | ⟨x1, l⟩
  · simp at h
  rcases l with _ | ⟨x2, l⟩
  · simp at h
  rcases l with _ | ⟨x3, l⟩
  · simp at h
  rcases l with _ | ⟨x4, l⟩
  · simp at h
  rcases l with _ | ⟨x5, l⟩
  · simp at h
  rcases l with _ | ⟨x6, l⟩
  · simp at h
  rcases l with _ | ⟨x7, l⟩
  · simp at h
  rcases l with _ | ⟨x8, l⟩
  · simp at h
  rcases l with _ | ⟨x9, l⟩
  · simp at h
  rcases l with _ | ⟨x10, l⟩
  · simp at h
  rcases l with _ | ⟨x11, l⟩
  · simp at h
  rcases l with _ | ⟨x12, l⟩
  · simp at h
  rcases l with _ | ⟨x13, l⟩
  · simp at h
  rcases l with _ | ⟨x14, l⟩
  · simp at h
  rcases l with _ | ⟨x15, l⟩
  · simp at h
  rcases l with _ | ⟨x16, l⟩
  · simp at h
  rcases l with _ | ⟨x17, l⟩
  · simp at h
  rcases l with _ | ⟨x18, l⟩
  · simp at h
  rcases l with _ | ⟨x19, l⟩
  · simp at h
  rcases l with _ | ⟨x20, l⟩
  · simp at h
  rcases l with _ | ⟨x21, l⟩
  · simp at h
  rcases l with _ | ⟨x22, l⟩
  · simp at h
  rcases l with _ | ⟨x23, l⟩
  · simp at h
  rcases l with _ | ⟨x24, l⟩
  · simp at h
  rcases l with _ | ⟨x25, l⟩
  · simp at h
  rcases l with _ | ⟨x26, l⟩
  · simp at h
  rcases l with _ | ⟨x27, l⟩
  · simp at h
  rcases l with _ | ⟨x28, l⟩
  · simp at h
  rcases l with _ | ⟨x29, l⟩
  · simp at h
  rcases l with _ | ⟨x30, l⟩
  · simp at h
  rcases l with _ | ⟨x31, l⟩
  · simp at h
  rcases l with _ | ⟨y, l⟩
  · exact ⟨x0, x1, x2, x3, x4, x5, x6, x7, x8, x9, x10, x11, x12, x13, x14, x15, x16, x17, x18, x19, x20, x21, x22, x23, x24, x25, x26, x27, x28, x29, x30, x31, rfl⟩
  · simp at h
set_option maxRecDepth 100000 in
theorem built69 (ky : List Int) (h : ky.length = 32) (f l : Int) : Tryd.prog.built 69 [(0, .agg (nums .u8 ky).toArray), (1, .int .i64 f), (2, .int .i64 l)] = some (refV ky f l).toArray := by
  obtain ⟨x0, x1, x2, x3, x4, x5, x6, x7, x8, x9, x10, x11, x12, x13, x14, x15, x16, x17, x18, x19, x20, x21, x22, x23, x24, x25, x26, x27, x28, x29, x30, x31, rfl⟩ := list32 ky h
  kernel_rfl
set_option maxRecDepth 100000 in
theorem built26 (n : Int) (ky : List Int) (h : ky.length = 32) : Tryd.prog.built 26 [(0, .int .i64 n), (1, .agg (nums .u8 ky).toArray)] = some (RC.V ⟨n, ky, []⟩ none 0).toArray := by
  obtain ⟨x0, x1, x2, x3, x4, x5, x6, x7, x8, x9, x10, x11, x12, x13, x14, x15, x16, x17, x18, x19, x20, x21, x22, x23, x24, x25, x26, x27, x28, x29, x30, x31, rfl⟩ := list32 ky h
  kernel_rfl
theorem yields_build {P : Program} {o : Oper} {a : Act} {w : World} (ty : TypeId) {ps : Array (Nat × Operand)} (ho : o.op = .build ty ps) (cs : Array Value) (h : P.built ty (ps.map fun (i, x) => (i, a.eval x)).toList = some cs) :
    (execOp a.eval o).run P w = .ok (.value (.agg cs)) w := by
  unfold execOp
  simp only [ho, Sem.run_bind, run_build w ty _ cs h, Result.andThen_ok]
  rfl
theorem arr23 (ad : Addr) (c : Nat) (W : World) : (Instr.arrayAt 23 (.slice (some ad) 32 c)).run Tryd.prog W = .ok (.pointer (some ad)) W := by
  simp [Instr.arrayAt, Sem.run_bind, run_underlying Tryd.underlying23]
theorem addr12 (ad : Addr) : ad.add 12 = ⟨ad.block, ad.off + 12, none⟩ := by
  have h := add_field ad 0 12 (by decide)
  rwa [Nat.zero_add, show ad.add 0 = ad from rfl] at h
theorem key_cells {w : World} {ad : Addr} {b : List Int} (hC : (Kd.int .u8).C w (some ad) 512 b) (hm : b.length = 512) (p : Nat) (hp : p + 32 ≤ 512) : ∀ j v, (nums .u8 (keyAt b p))[j]? = some v → w.cell? ((ad.add p).add j) = some v := by
  intro j v hv
  have hj : j < 32 := by have := (List.getElem?_eq_some_iff.1 hv).1; rwa [nums_length, keyAt_len hm hp] at this
  have h1 := C_cells hC (p + j) v (by
    unfold keyAt nums at hv
    unfold nums
    rw [List.getElem?_map, List.getElem?_take, if_pos hj, List.getElem?_drop] at hv
    rw [List.getElem?_map]
    exact hv)
  rwa [Addr.add_add]
section
variable {ops : Array Oper} {o : Oper} {a : Act} {Q : Exit → Act → World → Prop} {Kc : Act → World → Prop} {w0 W : World} {L : List Th}
theorem Sep.app_ref_step (hw : Region.wanted o (yielded ops a.tmps) = true) (s x : Operand) (ho : o.op = .call { callee := .builtin .append, args := #[s, x], argTypes := #[24, 24] })
    {v : Value} {l : List RF} (y : RF) (hy : y.Ok) (hs : a.eval s = v) (hx : a.eval x = .slice (some ⟨W.heap.size, 0, none⟩) 1 1) (h : Sep w0 W (ownT kRF 69 v l :: L)) (hl : l.length + 1 ≤ 1000000)
    (hk : ∀ v1 w1, Sep w0 w1 (ownT kRF 69 v1 (l ++ [y]) :: L) → Kc (a.put o.dst v1) w1) : if Region.wanted o (yielded ops a.tmps) = true then Oper.wp Tryd.prog o a (W.alloc (.cells y.V.toArray 69)) Kc Q else Kc (a.put o.dst undef) (W.alloc (.cells y.V.toArray 69)) := by
  obtain ⟨ok, hfresh, hr, back⟩ := h.open_own
  refine Kd.R_append_step kRF (w0 := W) 0 hw s x 24 69 (.agg zRF.V.toArray) 48 ho Tryd.underlying24 info69 (by show zRF.V.toArray.size = 34; simpa using RF.V_len zRF_ok) (by decide) (by decide) v l y y.V ok (fun _ => False) hs hx ⟨hy, rfl⟩ (fun _ hk => hk.elim) hfresh hr (Below.refl _ _) (Nat.zero_le _) (by omega) ?_
  intro v1 w1 hown _ hg _
  exact hk v1 w1 (back v1 (l ++ [y]) w1 hown hg)
theorem wp_bs69 (x : Operand) (ho : o.op = .buildSlice 24 1 #[(0, x)]) (cs : Array Value) (hx : a.eval x = .agg cs) (h : cs.size = 34)
    (hk : Kc (a.put o.dst (.slice (some ⟨W.heap.size, 0, none⟩) 1 1)) (W.alloc (.cells cs 69))) : Oper.wp Tryd.prog o a W Kc Q := by
  have h1 := run_bs69 cs h (.agg cs) rfl W
  unfold Oper.wp execOp
  simp only [ho, hx, Sem.run_bind, List.map_toArray, List.map_cons, List.map_nil, h1, Result.andThen_ok]
  exact hk
end
theorem C_drop {w : World} {ad : Addr} {b : List Int} (hC : (Kd.int .u8).C w (some ad) 512 b) (q : Nat) (hq : q < 512) : (Kd.int .u8).C w (some (ad.add q)) (512 - q) (b.drop q) :=
  ⟨by rw [List.length_drop, hC.1], by have := hC.2.1; omega, fun _ => ⟨ad.add q, rfl, fun j p hp => by
    obtain ⟨ad', e, h⟩ := hC.2.2 (by decide)
    cases e
    rw [List.getElem?_drop] at hp
    obtain ⟨cc, h1, h2, h3⟩ := h (q + j) p hp
    refine ⟨cc, h1, h2, fun i u hu => ?_⟩
    have h4 := h3 i u hu
    rw [Addr.add_add]
    rwa [show (q + j) * (Kd.int .u8).sz + i = q + (j * (Kd.int .u8).sz + i) from by show (q + j) * 1 + i = q + (j * 1 + i); omega] at h4⟩⟩
theorem numAt_drop (b : List Int) (q p n : Nat) : numAt (b.drop q) p n = numAt b (q + p) n := by
  unfold numAt
  rw [List.drop_drop]
def dk3_T : Bool × List (List Nat × List Nat) := (true, [([], []), ([0], [0]), ([], []), ([2], [2]), ([3], [3]), ([4], [4]), ([1, 5], [1, 5]), ([], []), ([7, 6, 1, 0, 1, 2, 3, 4, 5, 6, 7], [6, 7])])
def dk3_B : List Nat := [0, 1, 0, 4, 12, 28, 63, 0, 255]
theorem dk3_tab : rtab .any (opsOf Tryd.f24 3) = dk3_T := by kernel_rfl
theorem dk3_bits : waitsOk dk3_T.2 dk3_B = true := by kernel_rfl
def dk8_T : Bool × List (List Nat × List Nat) := (true, [([], []), ([0], [0]), ([], []), ([2], [2]), ([3], [3]), ([4], [4]), ([], []), ([6], [6]), ([], []), ([8, 7], [8]), ([5, 7, 9], [5, 7, 9]), ([10], [10]), ([1, 11, 9], [1, 11]), ([0, 1, 2, 3, 4, 5, 6, 7, 8, 9, 10, 11, 12], []), ([13, 12, 12, 0, 1, 2, 3, 4, 5, 6, 7, 8, 9, 10, 11, 12], [12, 13])])
def dk8_B : List Nat := [0, 1, 0, 4, 12, 28, 0, 64, 0, 448, 1020, 2044, 4095, 8191, 16383]
theorem dk8_tab : rtab .any (opsOf Tryd.f24 8) = dk8_T := by kernel_rfl
theorem dk8_bits : waitsOk dk8_T.2 dk8_B = true := by kernel_rfl
attribute [local go_sem] max2_int min2_int
set_option maxHeartbeats 16000000 in
set_option maxRecDepth 100000 in
theorem decode_run (b : List Int) (hb : bytes_ b) (hm : b.length = 512) (A : Option Addr) (c : Nat) (hc : 512 ≤ c) (w : World) (hH : Wr.Half w) (hC : (Kd.int .u8).C w A 512 b) (h4 : b.take 4 = magicJ) (s : RC) (hs : readJ b = s) :
    Calls Tryd.prog 24 #[.slice A 512 c] w fun e w' => (errJ s = 0 ∧ encJ s = b → ∃ A' c', e = .returned (.tuple #[.agg (s.V A' c').toArray, .int .i64 0]) ∧ Sep w w' [ownT kRF 69 (.slice A' s.r.length c') s.r]) ∧ (¬ (errJ s = 0 ∧ encJ s = b) → e = .returned (.tuple #[.agg zRC, .int .i64 61]) ∧ Below w.heap.size w w') := by
  have HS0 := Aside0.mk (Sep.refl w)
  have HHf := Aside0.mk hH
  have HOK := Aside0.mk (show s.Ok from hs ▸ readJ_ok hm hb)
  have HRJ := Aside0.mk (show s = ⟨numAt b 4 8, keyAt b 12, refsAt b (cntJ b)⟩ from hs ▸ rfl)
  have HCN := Aside0.mk (show cntJ b = min (b.getD 44 0).toNat 8 from rfl)
  have HRO := Aside0.mk (fun i (hi : i < 8) => rfAt_ok hm hb hi)
  have hz := (zero_of_info (P := Tryd.prog) (t := 26) (v := .agg zRC) (n := 34) (by unfold zRC; kernel_rfl)).1
  have HSZ := Aside0.mk (show (Tryd.prog.info? 26).map (·.size) = some zRC.size from size26 zRC_size)
  have HBZ := Aside0.mk built26z
  have HZA := Aside0.mk zRC_all
  have HZs := Aside0.mk zRC_size
  have HCB := Aside0.mk (fun W (hw : Below w.heap.size w W) => Kd.C_below hC hw)
  have HBM := Aside0.mk (And.intro hb hm)
  have HCc := Aside0.mk hc
  have HNU := Aside0.mk (fun W (hw : Below w.heap.size w W) p n P N hP hN h1 h8 hp => num69 (Kd.C_below hC hw) hm hc hb p n P N hP hN h1 h8 hp (by decide))
  obtain ⟨ad, rfl, _⟩ := hC.2.2 (by decide)
  have HKC := Aside0.mk (fun W (hw : Below w.heap.size w W) => (show ∀ j v, (nums .u8 (keyAt b 12))[j]? = some v → W.cell? ((⟨ad.block, ad.off + 12, none⟩ : Addr).add j) = some v from by have h := key_cells (Kd.C_below hC hw) hm 12 (by decide); rwa [addr12] at h))
  have HKL := Aside0.mk (keyAt_len hm (p := 12) (by decide))
  have HNW := Aside0.mk (fun W (hw : Below w.heap.size w W) (q p : Nat) (hq : q < 512) (P : Int) (hP : (p : Int) = P) (hp : p + 4 ≤ 512 - q) => (show Calls Tryd.prog 69 #[.slice (some (ad.add q)) (512 - q) (c - q), .int .i64 P, .int .i64 4] W (fun e w' => e = .returned (.int .i64 (numAt b (q + p) 4)) ∧ Below W.heap.size W w') from by
    have h := num69 (C_drop (Kd.C_below hC hw) q hq) (show (b.drop q).length = 512 - q by rw [List.length_drop, hm]) (show 512 - q ≤ c - q by omega) (bytes_drop hb q) p 4 P 4 hP rfl (by decide) (by decide) hp (by omega)
    rwa [numAt_drop] at h))
  have HKW := Aside0.mk (fun W (hw : Below w.heap.size w W) (q : Nat) (hq : q + 32 ≤ 512) => key_cells (Kd.C_below hC hw) hm q hq)
  have HBC := Aside0.mk (fun W (hw : Below w.heap.size w W) i (hi : i < 512) => byte_cell (Kd.C_below hC hw) i (by omega))
  have hqb := hb (b.getD 44 0) (by rw [List.getD_eq_getElem?_getD, List.getElem?_eq_getElem (show 44 < b.length by omega)]; exact List.getElem_mem _)
  generalize hq : b.getD 44 0 = q at HCN hqb
  have HQ := Aside0.mk hq
  have hq0 := hqb.1
  have hq256 := hqb.2
  generalize cntJ b = n at HCN HRJ
  clear hq hqb
  have HN4 := Aside0.mk (fun W hw => HNU.out W hw 4 8 4 8 rfl rfl (by decide) (by decide) (by decide))
  have HCV := Aside0.mk (fun W (hb : Below w.heap.size w W) => (show (convert 29 9 (.slice (some ad) 4 c)).run Tryd.prog W = .ok (.string (strOfNums (b.take 4))) W from Kd.C_string (P := Tryd.prog) Tryd.underlying29 Tryd.underlying5 Tryd.underlying9 (Kd.C_below (C_take4 hC) hb)))
  have hne : ((strOfNums (b.take 4)).toList == [119, 111, 114, 107]) = true := by
    have h := bytes_same (bytes_take hb 4) bytes_magic
    rw [magic_list] at h
    rw [h]
    exact decide_eq_true h4
  have hc4 : (4 : Int) ≤ (c : Int) := by omega
  generalize strOfNums (b.take 4) = sb at HCV hne
  generalize zRC = Z at hz HSZ HZA HBZ HZs ⊢
  generalize hn0 : numAt b 4 8 = n0 at HN4 HRJ
  generalize hky : keyAt b 12 = ky at HRJ HKL HKC
  have HKY := Aside0.mk hky
  have HSK := Aside0.mk (show (Tryd.prog.info? 23).map (·.size) = some (nums .u8 ky).toArray.size from size23 (by simpa [nums_length] using HKL.out))
  have HB1 := Aside0.mk (built26 n0 ky HKL.out)
  have HSV1 := Aside0.mk (show (Tryd.prog.info? 26).map (·.size) = some (RC.V ⟨n0, ky, []⟩ none 0).toArray.size from size26 (rc_sz HKL.out))
  have HAV1 := Aside0.mk (RC.V_all ⟨n0, ky, []⟩ none 0)
  have HZV1 := Aside0.mk (show Z.size = (RC.V ⟨n0, ky, []⟩ none 0).toArray.size from by rw [HZs.out, rc_sz HKL.out])
  generalize hV1 : (RC.V ⟨n0, ky, []⟩ none 0).toArray = V1 at HB1 HSV1 HAV1 HZV1
  have HV1 := Aside0.mk hV1
  clear hC hm hb hn0 hky hc hs hV1 h4 hH
  go_enter Tryd.func24, Tryd.ntmps24
  go_upto_region 1 with (fail)
  have HS2 := Aside0.mk (HS0.out.push_alloc Z 26)
  generalize w.alloc (.cells Z 26) = w2 at HS2 ⊢
  generalize w.heap.size = g2 at HS2 ⊢
  have hcv := HCV.out _ HS2.out.below
  go_upto_region 3 with (fail)
  have HSy := Aside0.mk (HS2.out.step (below_drew1 (Below.refl w2.heap.size w2)))
  clear HS2 HS0 hcv HCV hne
  have hp1 : (44 : Int) ≤ (c : Int) := by have := HCc.out; omega
  have hcp : ¬ c = 12 := by have := HCc.out; omega
  have harr := arr23 ⟨ad.block, ad.off + 12, none⟩ (c - 12)
  refine start_ (n := 9) (S := fun W => (∀ j v, (nums .u8 ky)[j]? = some v → W.cell? ((⟨ad.block, ad.off + 12, none⟩ : Addr).add j) = some v)) (ds := [8]) (bb 9 0) (by kernel_rfl) rfl rfl (HKC.out _ HSy.out.below) (fun hHeld => ?_); refine with_tabW dk3_tab dk3_bits (fun HT_ HW_ => ?_)
  generalize w2.drew = wd at hHeld HSy ⊢
  refine pure_ (i := 0) (N := (some 19)) (v := ?_) (a' := ?_) (bb 9 1) rfl rfl (any_of HT_.out (by kernel_rfl)) (fun _ _ _ h => h) (Or.inl ⟨by rfl, ?_⟩) ?_ ?_
  rotate_left
  · intro w'
    go_simp
    with_reducible rfl
  rotate_left
  · simp only [Act.put, List.setIfInBounds_toArray, List.set_cons_zero, List.set_cons_succ, i64_w, i32_w]
    rfl
  refine pure_ (i := 2) (N := (some 21)) (v := ?_) (a' := ?_) (bb 9 5) rfl rfl (any_of HT_.out (by kernel_rfl)) (fun _ _ _ h => h) (Or.inl ⟨by rfl, ?_⟩) ?_ ?_
  rotate_left
  · intro w'
    go_simp
    with_reducible rfl
  rotate_left
  · simp only [Act.put, List.setIfInBounds_toArray, List.set_cons_zero, List.set_cons_succ, i64_w, i32_w]
    rfl
  refine pure_ (i := 3) (N := (some 22)) (v := ?_) (a' := ?_) (bb 9 13) rfl rfl (any_of HT_.out (by kernel_rfl)) (fun _ _ _ h => h) (Or.inl ⟨by rfl, ?_⟩) ?_ ?_
  rotate_left
  · intro w'
    go_simp
    with_reducible rfl
  rotate_left
  · simp only [Act.put, List.setIfInBounds_toArray, List.set_cons_zero, List.set_cons_succ, i64_w, i32_w]
    rfl
  refine pure_ (i := 4) (N := (some 23)) (v := ?_) (a' := ?_) (bb 9 29) rfl rfl (any_of HT_.out (by kernel_rfl)) (fun _ _ _ h => h) (Or.inl ⟨by rfl, ?_⟩) ?_ ?_
  rotate_left
  · intro w'
    go_simp
    with_reducible rfl
  rotate_left
  · simp only [Act.put, List.setIfInBounds_toArray, List.set_cons_zero, List.set_cons_succ, i64_w, i32_w]
    rfl
  refine take_ (i := 5) (N := (some 24)) (v := .agg (nums .u8 ky).toArray) (a' := ?_) (bb 9 61) rfl rfl (take_ofW HT_.out HW_.out (by kernel_rfl)) (fun _ _ _ h => h) (Or.inl ⟨by rfl, fun w' s0 => yields_ld 23 _ rfl (⟨ad.block, ad.off + 12, none⟩ : Addr) rfl (nums .u8 ky).toArray _ s0 Tryd.underlying23 rfl HSK.out⟩) hHeld ?_ ?_
  rotate_left
  · simp only [Act.put, List.setIfInBounds_toArray, List.set_cons_zero, List.set_cons_succ, i64_w, i32_w]
    rfl
  refine two_ (i := 1) (j := 7) (Ni := some 20) (Nj := some 4) (bb 9 63) (bb 9 189) rfl rfl rfl rfl (two_of HT_.out (by kernel_rfl)) (by decide) (by decide) (fun K hK => ?_) (fun K hK => ?_)
  case refine_1 =>
    refine goes_ Tryd.func69 (by kernel_rfl) rfl #[.slice (some ad) 512 c, .int .i64 4, .int .i64 8] (by rfl) rfl rfl (by (try simp only [List.map_toArray, List.map_cons, List.map_nil]); first | done | rfl) ?_
    with_reducible refine (HN4.out _ HSy.out.below).mono ?_
    rintro e w3 ⟨rfl, hb⟩
    have HS3 := Aside0.mk (HSy.out.step hb)
    clear hb
    refine ⟨_, rfl, ?_⟩
    refine hK.out _ _ (HKC.out _ HS3.out.below) (fun hHeld => ?_)
    clear hK K
    refine norm_ (a' := ?_) ?_ ?_
    rotate_left
    · show Act.put _ (some 20) _ = _
      simp only [Act.put, List.setIfInBounds_toArray, List.set_cons_zero, List.set_cons_succ, i64_w, i32_w]
      rfl
    refine pure_ (i := 6) (N := (some 25)) (v := .agg V1) (a' := ?_) (bb 9 127) rfl rfl (any_of HT_.out (by kernel_rfl)) (fun _ _ _ h => h) (Or.inl ⟨by rfl, fun w' => yields_build 26 rfl V1 (by (try simp only [List.map_toArray, List.map_cons, List.map_nil]); exact HB1.out)⟩) ?_ ?_
    rotate_left
    · simp only [Act.put, List.setIfInBounds_toArray, List.set_cons_zero, List.set_cons_succ, i64_w, i32_w]
      rfl
    refine one_ (i := 7) (N := (some 4)) (bb 9 255) rfl rfl (one_of HT_.out (by kernel_rfl)) (by decide) (fun K hK => ?_)
    refine value_ (w1 := ?_) (v := ?_) (by rfl) rfl ?_ ?_
    rotate_left 2
    · go_simp
      constructor
      · rfl
      · rfl
    have HS4 := Aside0.mk (HS3.out.push_alloc Z 26)
    generalize w3.alloc (.cells Z 26) = w4 at HS4 ⊢
    generalize w3.heap.size = g4 at HS4 ⊢
    refine hK.out _ _ (HKC.out _ HS4.out.below) (fun hHeld => ?_)
    clear hK K
    refine norm_ (a' := ?_) ?_ ?_
    rotate_left
    · show Act.put _ (some 4) _ = _
      simp only [Act.put, List.setIfInBounds_toArray, List.set_cons_zero, List.set_cons_succ, i64_w, i32_w]
      rfl
    refine last_ (i := 8) (N := none) (bb 9 511) rfl rfl (one_of HT_.out (by kernel_rfl)) (by decide) (fun K hK => ?_)
    rw [if_pos (by rfl)]
    refine Sep.store_wp 26 _ _ rfl rfl rfl HS4.out HSV1.out HZV1.out HAV1.out (fun w5 h5 => ?_)
    have HS5 := Aside0.mk h5
    clear h5
    refine hK.out _ _ ?_
    clear hK K
    refine norm_ (a' := ?_) ?_ ?_
    rotate_left
    · show Act.put _ none _ = _
      simp only [Act.put, List.setIfInBounds_toArray, List.set_cons_zero, List.set_cons_succ, i64_w, i32_w]
      rfl
    refine done_ (done_of HT_.out (by kernel_rfl)) ?_
    have HSa := Aside0.mk (show Sep w w5 (cellsT g4 (RC.V ⟨n0, ky, []⟩ none 0).toArray 26 :: cellsT g2 Z 26 :: []) from by rw [HV1.out]; exact HS5.out)
    clear hHeld HS5 HS4 HS3 HSy HB1 HSV1 HAV1 HZV1 HV1 harr hcp hp1 HN4 HKC HSK hz
    have x44 : w5.cell? ⟨ad.block, ad.off + 44, none⟩ = some (.int .u8 q) := by
      have h := HBC.out _ HSa.out.below 44 (by decide)
      rwa [addr44, HQ.out] at h
    have hmn : min q 8 = (n : Int) := by have := HCN.out; omega
    go_upto_region 4 with (fail)
    go_upto_region 5 with (fail)
    have hn8 : (n : Int) ≤ 8 := by omega
    have HN8 := Aside0.mk (show n ≤ 8 by omega)
    clear x44 hmn
    go_loopg [31] n (fun kq v31 wr => ∃ i : Nat, v31 = .int .i64 i ∧ Aside0 (i + kq = n) ∧ Aside0 (∃ Ar cr, Sep w wr (cellsT g4 (RC.V ⟨n0, ky, refsAt b i⟩ Ar cr).toArray 26 :: ownT kRF 69 (.slice Ar i cr) (refsAt b i) :: cellsT g2 Z 26 :: [])))
    case atStart => exact ⟨0, rfl, ⟨by omega⟩, ⟨none, 0, (HSa.out.push_nil kRF 69).up1⟩⟩
    case round =>
      obtain ⟨i, rfl, HJ, hS⟩ := hrel
      clear HSa
      obtain ⟨Ar, cr, hS⟩ := hS.out
      have HS := Aside0.mk hS
      clear hS
      by_cases hi : i < n
      · have t0 : decide ((i : Int) < (n : Int)) = true := decide_eq_true (by omega)
        have hi1 : (i : Int) < (n : Int) := by omega
        have hi8 : (i : Int) < 8 := by omega
        have hcc : (512 : Int) ≤ (c : Int) := by have := HCc.out; omega
        have HI := Aside0.mk hi
        have HI8 := Aside0.mk (show i < 8 by omega)
        have HX := Aside0.mk (HRO.out i HI8.out)
        have HSN := Aside0.mk (refsAt_snoc b i)
        have HXE := Aside0.mk (show rfAt b i = ⟨keyAt b (45 + 40 * i), numAt b (45 + 40 * i + 32) 4, numAt b (45 + 40 * i + 36) 4⟩ from rfl)
        have HNf := Aside0.mk (fun W hw => HNW.out W hw (45 + 40 * i) 32 (by omega) 32 rfl (by omega))
        have HNl := Aside0.mk (fun W hw => HNW.out W hw (45 + 40 * i) 36 (by omega) 36 rfl (by omega))
        have HKX := Aside0.mk (fun W hw => HKW.out W hw (45 + 40 * i) (by omega))
        have HRL := Aside0.mk (refsAt_len b i)
        go_upto_region 8 with (fail)
        generalize numAt b (45 + 40 * i + 32) 4 = xf at HXE HNf
        generalize numAt b (45 + 40 * i + 36) 4 = xl at HXE HNl
        generalize keyAt b (45 + 40 * i) = kx at HXE HKX
        have HXL := Aside0.mk (show kx.length = 32 from by have h := HX.out.k; rwa [HXE.out] at h)
        have hcp32 : (32 : Int) ≤ ((c - (45 + 40 * i) : Nat) : Int) := by omega
        generalize ad.add (45 + 40 * i) = ap at HNf HNl HKX ⊢
        generalize 512 - (45 + 40 * i) = mp at HNf HNl ⊢
        generalize c - (45 + 40 * i) = cp at HNf HNl hcp32 ⊢
        have HBX := Aside0.mk (show Tryd.prog.built 69 [(0, .agg (nums .u8 kx).toArray), (1, .int .i64 xf), (2, .int .i64 xl)] = some (rfAt b i).V.toArray from by rw [HXE.out]; exact built69 kx HXL.out xf xl)
        have HSKx := Aside0.mk (show (Tryd.prog.info? 23).map (·.size) = some (nums .u8 kx).toArray.size from size23 (by simpa [nums_length] using HXL.out))
        generalize rfAt b i = x at HX HSN HBX
        generalize refsAt b i = rs at HS HSN HRL
        have HXV := Aside0.mk (show x.V.toArray.size = 34 from by simpa using RF.V_len HX.out)
        have harr := arr23 ap cp
        have HSz := Aside0.mk (HS.out.step (below_drew1 (Below.refl wr.heap.size wr)))
        clear HS HXE
        refine start_ (n := 15) (S := fun W => W.cell? ⟨g4, 33, none⟩ = some (.slice Ar i cr) ∧ (∀ j v, (nums .u8 kx)[j]? = some v → W.cell? (ap.add j) = some v)) (ds := [14]) (bb 15 0) (by kernel_rfl) rfl rfl (⟨rc_cell33 HKL.out HRL.out HSz.out, HKX.out _ HSz.out.below⟩) (fun hHeld => ?_); refine with_tabW dk8_tab dk8_bits (fun HT_ HW_ => ?_)
        generalize wr.drew = wd at hHeld HSz ⊢
        refine pure_ (i := 0) (N := (some 39)) (v := ?_) (a' := ?_) (bb 15 1) rfl rfl (any_of HT_.out (by kernel_rfl)) (fun _ _ _ h => h) (Or.inl ⟨by rfl, ?_⟩) ?_ ?_
        rotate_left
        · intro w'
          go_simp
          with_reducible rfl
        rotate_left
        · simp only [Act.put, List.setIfInBounds_toArray, List.set_cons_zero, List.set_cons_succ, i64_w, i32_w]
          rfl
        refine take_ (i := 1) (N := (some 40)) (v := ?_) (a' := ?_) (bb 15 3) rfl rfl (take_ofW HT_.out HW_.out (by kernel_rfl)) (fun _ _ _ h => h) (Or.inl ⟨by rfl, ?_⟩) hHeld ?_ ?_
        rotate_left
        · intro w' s0
          (try dsimp only at s0)
          go_simp
          with_reducible rfl
        rotate_left
        · simp only [Act.put, List.setIfInBounds_toArray, List.set_cons_zero, List.set_cons_succ, i64_w, i32_w]
          rfl
        refine pure_ (i := 2) (N := (some 41)) (v := ?_) (a' := ?_) (bb 15 7) rfl rfl (any_of HT_.out (by kernel_rfl)) (fun _ _ _ h => h) (Or.inl ⟨by rfl, ?_⟩) ?_ ?_
        rotate_left
        · intro w'
          go_simp
          with_reducible rfl
        rotate_left
        · simp only [Act.put, List.setIfInBounds_toArray, List.set_cons_zero, List.set_cons_succ, i64_w, i32_w]
          rfl
        refine pure_ (i := 3) (N := (some 42)) (v := ?_) (a' := ?_) (bb 15 15) rfl rfl (any_of HT_.out (by kernel_rfl)) (fun _ _ _ h => h) (Or.inl ⟨by rfl, ?_⟩) ?_ ?_
        rotate_left
        · intro w'
          go_simp
          with_reducible rfl
        rotate_left
        · simp only [Act.put, List.setIfInBounds_toArray, List.set_cons_zero, List.set_cons_succ, i64_w, i32_w]
          rfl
        refine pure_ (i := 4) (N := (some 43)) (v := ?_) (a' := ?_) (bb 15 31) rfl rfl (any_of HT_.out (by kernel_rfl)) (fun _ _ _ h => h) (Or.inl ⟨by rfl, ?_⟩) ?_ ?_
        rotate_left
        · intro w'
          go_simp
          with_reducible rfl
        rotate_left
        · simp only [Act.put, List.setIfInBounds_toArray, List.set_cons_zero, List.set_cons_succ, i64_w, i32_w]
          rfl
        refine take_ (i := 5) (N := (some 44)) (v := .agg (nums .u8 kx).toArray) (a' := ?_) (bb 15 63) rfl rfl (take_ofW HT_.out HW_.out (by kernel_rfl)) (fun _ _ _ h => h) (Or.inl ⟨by rfl, fun w' s0 => yields_ld 23 _ rfl ap rfl (nums .u8 kx).toArray _ s0.2 Tryd.underlying23 rfl HSKx.out⟩) hHeld ?_ ?_
        rotate_left
        · simp only [Act.put, List.setIfInBounds_toArray, List.set_cons_zero, List.set_cons_succ, i64_w, i32_w]
          rfl
        refine pure_ (i := 6) (N := (some 45)) (v := ?_) (a' := ?_) (bb 15 127) rfl rfl (any_of HT_.out (by kernel_rfl)) (fun _ _ _ h => h) (Or.inl ⟨by rfl, ?_⟩) ?_ ?_
        rotate_left
        · intro w'
          go_simp
          with_reducible rfl
        rotate_left
        · simp only [Act.put, List.setIfInBounds_toArray, List.set_cons_zero, List.set_cons_succ, i64_w, i32_w]
          rfl
        refine pure_ (i := 8) (N := (some 47)) (v := ?_) (a' := ?_) (bb 15 383) rfl rfl (any_of HT_.out (by kernel_rfl)) (fun _ _ _ h => h) (Or.inl ⟨by rfl, ?_⟩) ?_ ?_
        rotate_left
        · intro w'
          go_simp
          with_reducible rfl
        rotate_left
        · simp only [Act.put, List.setIfInBounds_toArray, List.set_cons_zero, List.set_cons_succ, i64_w, i32_w]
          rfl
        refine one_ (i := 7) (N := (some 46)) (bb 15 511) rfl rfl (one_of HT_.out (by kernel_rfl)) (by decide) (fun K hK => ?_)
        refine goes_ Tryd.func69 (by kernel_rfl) rfl #[.slice (some ap) mp cp, .int .i64 32, .int .i64 4] (by rfl) rfl rfl (by (try simp only [List.map_toArray, List.map_cons, List.map_nil]); first | done | rfl) ?_
        with_reducible refine (HNf.out _ HSz.out.below).mono ?_
        rintro e w6 ⟨rfl, hb⟩
        have HS6 := Aside0.mk (HSz.out.step hb)
        clear hb
        refine ⟨_, rfl, ?_⟩
        refine hK.out _ _ (⟨rc_cell33 HKL.out HRL.out HS6.out, HKX.out _ HS6.out.below⟩) (fun hHeld => ?_)
        clear hK K
        refine norm_ (a' := ?_) ?_ ?_
        rotate_left
        · show Act.put _ (some 46) _ = _
          simp only [Act.put, List.setIfInBounds_toArray, List.set_cons_zero, List.set_cons_succ, i64_w, i32_w]
          rfl
        refine one_ (i := 9) (N := (some 48)) (bb 15 1023) rfl rfl (one_of HT_.out (by kernel_rfl)) (by decide) (fun K hK => ?_)
        refine goes_ Tryd.func69 (by kernel_rfl) rfl #[.slice (some ap) mp cp, .int .i64 36, .int .i64 4] (by rfl) rfl rfl (by (try simp only [List.map_toArray, List.map_cons, List.map_nil]); first | done | rfl) ?_
        with_reducible refine (HNl.out _ HS6.out.below).mono ?_
        rintro e w7 ⟨rfl, hb⟩
        have HS7 := Aside0.mk (HS6.out.step hb)
        clear hb
        refine ⟨_, rfl, ?_⟩
        refine hK.out _ _ (⟨rc_cell33 HKL.out HRL.out HS7.out, HKX.out _ HS7.out.below⟩) (fun hHeld => ?_)
        clear hK K
        refine norm_ (a' := ?_) ?_ ?_
        rotate_left
        · show Act.put _ (some 48) _ = _
          simp only [Act.put, List.setIfInBounds_toArray, List.set_cons_zero, List.set_cons_succ, i64_w, i32_w]
          rfl
        refine pure_ (i := 10) (N := (some 49)) (v := .agg x.V.toArray) (a' := ?_) (bb 15 2047) rfl rfl (any_of HT_.out (by kernel_rfl)) (fun _ _ _ h => h) (Or.inl ⟨by rfl, fun w' => yields_build 69 rfl x.V.toArray (by (try simp only [List.map_toArray, List.map_cons, List.map_nil]); exact HBX.out)⟩) ?_ ?_
        rotate_left
        · simp only [Act.put, List.setIfInBounds_toArray, List.set_cons_zero, List.set_cons_succ, i64_w, i32_w]
          rfl
        refine one_ (i := 11) (N := (some 50)) (bb 15 4095) rfl rfl (one_of HT_.out (by kernel_rfl)) (by decide) (fun K hK => ?_)
        rw [if_pos (by rfl)]
        refine wp_bs69 _ rfl x.V.toArray rfl HXV.out ?_
        have HS8 := Aside0.mk (HS7.out.step (below_alloc (Below.refl w7.heap.size w7) (.cells x.V.toArray 69)))
        refine hK.out _ _ (⟨rc_cell33 HKL.out HRL.out HS8.out, HKX.out _ HS8.out.below⟩) (fun hHeld => ?_)
        clear hK K
        refine norm_ (a' := ?_) ?_ ?_
        rotate_left
        · show Act.put _ (some 50) _ = _
          simp only [Act.put, List.setIfInBounds_toArray, List.set_cons_zero, List.set_cons_succ, i64_w, i32_w]
          rfl
        refine one_ (i := 12) (N := (some 51)) (bb 15 8191) rfl rfl (one_of HT_.out (by kernel_rfl)) (by decide) (fun K hK => ?_)
        refine Sep.app_ref_step (by rfl) _ _ rfl x HX.out rfl rfl HS7.out.up1 (by rw [HRL.out]; omega) ?_
        intro v1 wa ha
        obtain ⟨A1, c1, hv⟩ := ha.own_slice
        rw [show (rs ++ [x]).length = i + 1 from by rw [List.length_append, HRL.out]; rfl] at hv
        subst hv
        have HS9 := Aside0.mk ha
        have z1 := rc_cell33 HKL.out HRL.out HS9.out.up1
        have z2 := blk_frozen HS9.out.up1.cells.1 33
        clear ha
        refine hK.out _ _ (⟨rc_cell33 HKL.out HRL.out HS9.out.up1, HKX.out _ HS9.out.below⟩) (fun hHeld => ?_)
        clear hK K
        refine norm_ (a' := ?_) ?_ ?_
        rotate_left
        · show Act.put _ (some 51) _ = _
          simp only [Act.put, List.setIfInBounds_toArray, List.set_cons_zero, List.set_cons_succ, i64_w, i32_w]
          rfl
        refine pure_ (i := 13) (N := (some 52)) (v := ?_) (a' := ?_) (bb 15 16383) rfl rfl (any_of HT_.out (by kernel_rfl)) (fun _ _ _ h => h) (Or.inl ⟨by rfl, ?_⟩) ?_ ?_
        rotate_left
        · intro w'
          go_simp
          with_reducible rfl
        rotate_left
        · simp only [Act.put, List.setIfInBounds_toArray, List.set_cons_zero, List.set_cons_succ, i64_w, i32_w]
          rfl
        refine last_ (i := 14) (N := none) (bb 15 32767) rfl rfl (one_of HT_.out (by kernel_rfl)) (by decide) (fun K hK => ?_)
        refine skip_ (w1 := ?_) (by rfl) rfl ?_ ?_
        rotate_left
        · go_simp
          first | rfl | (constructor <;> rfl)
        refine hK.out _ _ ?_
        clear hK K
        refine done_ (done_of HT_.out (by kernel_rfl)) ?_
        have HSd := Aside0.mk (show Sep w (wa.setCell ⟨g4, 33, none⟩ (.slice A1 (i + 1) c1)) (cellsT g4 (RC.V ⟨n0, ky, rs ++ [x]⟩ A1 c1).toArray 26 :: ownT kRF 69 (.slice A1 (i + 1) c1) (rs ++ [x]) :: cellsT g2 Z 26 :: []) from by
          have h := HS9.out.up1.cset 33 (.slice A1 (i + 1) c1)
          rwa [RC.set33 n0 ky HKL.out rs (rs ++ [x]) _ A1 _ c1 (i + 1) (by rw [List.length_append, HRL.out]; rfl)] at h)
        clear z1 z2 HS9 HS8 HS7 HS6 HSz hHeld harr
        generalize wa.setCell ⟨g4, 33, none⟩ (.slice A1 (i + 1) c1) = wb at HSd ⊢
        go_wp2
        go_roundg (n - (i + 1))
        case measure => have := HJ.out; have := HI.out; omega
        case rel => exact ⟨i + 1, rfl, ⟨by have := HJ.out; have := HI.out; omega⟩, ⟨A1, c1, by rw [HSN.out]; exact HSd.out⟩⟩
      · have hi3 : i = n := by have := HJ.out; omega
        have t0 : decide ((i : Int) < (n : Int)) = false := decide_eq_false (by omega)
        subst hi3
        have HSe := Aside0.mk (show Sep w wr (cellsT g4 (s.V Ar cr).toArray 26 :: ownT kRF 69 (.slice Ar i cr) s.r :: cellsT g2 Z 26 :: []) from by rw [HRJ.out]; exact HS.out)
        have HRn := Aside0.mk (show s.r.length = i from by rw [HRJ.out]; exact refsAt_len b i)
        clear HS HRJ
        have HCr := Aside0.mk (HSe.out.up1.own_C).1
        have HEY := Aside0.mk (fun (hm : errJ s = 0) => encode_yes s HOK.out ((err_iff s).1 hm) Ar cr wr (HHf.out.below HSe.out.below) HCr.out)
        have HEX := Aside0.mk (fun (hm : ¬ errJ s = 0) => encode_no s HOK.out hm Ar cr wr HCr.out)
        have HEB := Aside0.mk (fun (hm : errJ s = 0) => (show bytes_ (encJ s) ∧ (encJ s).length = 512 from ⟨bytes_encJ HOK.out ((err_iff s).1 hm).r8, encJ_len HOK.out ((err_iff s).1 hm).r8⟩))
        have HSV := Aside0.mk (RC.size HOK.out Ar cr)
        have HAV := Aside0.mk (RC.V_all s Ar cr)
        have HZN := Aside0.mk (show Z.size = (s.V Ar cr).toArray.size from by
          have h1 := HSZ.out
          have h2 := HSV.out
          rw [h1] at h2
          simpa using h2)
        generalize hV : (s.V Ar cr).toArray = V at HSe HEY HEX HSV HAV HZN
        have HV := Aside0.mk hV
        clear hV HCr
        have HLD := Aside0.mk (fun W (M : List Th) (h : Sep w W (cellsT g4 V 26 :: M)) => (show ∀ j v, V.toList[j]? = some v → W.cell? ((⟨g4, 0, none⟩ : Addr).add j) = some v from fun j v hv => seg_at (cs := V.toList) h.cells.1 0 V.toList (by rw [List.drop_zero]; exact List.take_of_length_le (Nat.le_refl _)) j v hv))
        by_cases hm : errJ s = 0
        · have HEB := Aside0.mk (HEB.out hm)
          have HM := Aside0.mk hm
          go_upto_region 11 with (first
            | ((with_reducible refine gate_load (ty := 26) rfl ?_); refine wpList_ldw ?_ 26 _ rfl ⟨g4, 0, none⟩ ?_ V _ (HLD.out _ _ HSe.out) Tryd.underlying26 rfl HSV.out ?_; exact rfl; exact rfl; skip)
            | (go_at_call 17; (with_reducible refine (HEY.out HM.out).mono ?_); rintro e wc ⟨A5, c5, rfl, h5⟩; have HSf := Aside0.mk (HSe.out.then_ h5); clear h5))
          have HC5 := Aside0.mk (show (Kd.int .u8).C wc A5 512 (encJ s) ∧ 512 ≤ c5 from by have h := HSf.out.own_C; rwa [HEB.out.2] at h)
          have HSM := Aside0.mk (same70 HC5.out.1 (HCB.out _ HSf.out.below) HEB.out.2 HBM.out.2 HC5.out.2 HCc.out HEB.out.1 HBM.out.1)
          clear HSe HEY HEX
          by_cases hq : encJ s = b
          · have t3 : decide (encJ s = b) = true := decide_eq_true hq
            rw [t3] at HSM
            have HQQ := Aside0.mk hq
            clear hq t3
            go_wp2_with (first
              | (go_at_call 70; (with_reducible refine HSM.out.mono ?_); rintro e wd2 ⟨rfl, hb⟩; have HSg := Aside0.mk (HSf.out.step hb); clear hb)
              | ((with_reducible refine gate_load (ty := 26) rfl ?_); refine wpList_ldw ?_ 26 _ rfl ⟨g4, 0, none⟩ ?_ V _ (HLD.out _ _ HSg.out.up1) Tryd.underlying26 rfl HSV.out ?_; exact rfl; exact rfl; skip)
              | ((with_reducible refine gate_store (ty := 26) rfl ?_); refine Sep.store_own rfl 26 _ _ rfl rfl rfl HSg.out.up3 HSV.out HZN.out HAV.out ?_; intro we h7; have HSh := Aside0.mk h7; clear h7))
            refine bodyPost_ret (results_row_tmp (p := 2) (u := 3) (ty := 26) rfl _ _ g2 26 V (0, 0) _ _ rfl rfl HSh.out.cells.1 Tryd.underlying26 rfl HSV.out) rfl ⟨fun _ => ⟨Ar, cr, by rw [HV.out]; rfl, ?_⟩, fun h => absurd ⟨HM.out, HQQ.out⟩ h⟩
            rw [HRn.out]
            exact HSh.out.sel 4 [3] _ rfl (by decide) rfl
          · have t3 : decide (encJ s = b) = false := decide_eq_false hq
            rw [t3] at HSM
            have HQQ := Aside0.mk hq
            clear hq t3
            go_wp2_with (first
              | (go_at_call 70; (with_reducible refine HSM.out.mono ?_); rintro e wd2 ⟨rfl, hb⟩; have HSg := Aside0.mk (HSf.out.step hb); clear hb)
              | ((with_reducible refine gate_build (ty := 26) rfl ?_); refine wpList_buildTo rfl 26 _ rfl (some 67) rfl Z ?aB ?_; (case aB => (simp only [List.map_toArray, List.map_nil]; exact HBZ.out)))
              | ((with_reducible refine gate_store (ty := 26) rfl ?_); refine Sep.store_own rfl 26 _ _ rfl rfl rfl HSg.out.up3 HSZ.out rfl HZA.out ?_; intro we h7; have HSh := Aside0.mk h7; clear h7))
            refine bodyPost_ret (results_row_tmp (p := 2) (u := 3) (ty := 26) rfl _ _ g2 26 Z (0, 0) _ _ rfl rfl HSh.out.cells.1 Tryd.underlying26 rfl HSZ.out) rfl ⟨fun h => absurd h.2 HQQ.out, fun _ => ⟨rfl, HSh.out.below⟩⟩
        · have HM := Aside0.mk hm
          have HEX2 := Aside0.mk (HEX.out hm)
          have t3 : ¬ errJ s = 0 := hm
          go_upto_region 11 with (first
            | ((with_reducible refine gate_load (ty := 26) rfl ?_); refine wpList_ldw ?_ 26 _ rfl ⟨g4, 0, none⟩ ?_ V _ (HLD.out _ _ HSe.out) Tryd.underlying26 rfl HSV.out ?_; exact rfl; exact rfl; skip)
            | (go_at_call 17; (with_reducible refine HEX2.out.mono ?_); rintro e wc ⟨rfl, hb⟩; have HSg := Aside0.mk (HSe.out.step hb); clear hb))
          clear HSe HEY HEX
          go_wp2_with (first
            | ((with_reducible refine gate_build (ty := 26) rfl ?_); refine wpList_buildTo rfl 26 _ rfl (some 67) rfl Z ?aB ?_; (case aB => (simp only [List.map_toArray, List.map_nil]; exact HBZ.out)))
            | ((with_reducible refine gate_store (ty := 26) rfl ?_); refine Sep.store_own rfl 26 _ _ rfl rfl rfl HSg.out.up2 HSZ.out rfl HZA.out ?_; intro we h7; have HSh := Aside0.mk h7; clear h7))
          refine bodyPost_ret (results_row_tmp (p := 2) (u := 3) (ty := 26) rfl _ _ g2 26 Z (0, 0) _ _ rfl rfl HSh.out.cells.1 Tryd.underlying26 rfl HSZ.out) rfl ⟨fun h => absurd h.1 HM.out, fun _ => ⟨rfl, HSh.out.below⟩⟩
  case refine_2 =>
    refine value_ (w1 := ?_) (v := ?_) (by rfl) rfl ?_ ?_
    rotate_left 2
    · go_simp
      constructor
      · rfl
      · rfl
    have HS3 := Aside0.mk (HSy.out.push_alloc Z 26)
    generalize wd.alloc (.cells Z 26) = w3 at HS3 ⊢
    generalize wd.heap.size = g4 at HS3 ⊢
    refine hK.out _ _ (HKC.out _ HS3.out.below) (fun hHeld => ?_)
    clear hK K
    refine norm_ (a' := ?_) ?_ ?_
    rotate_left
    · show Act.put _ (some 4) _ = _
      simp only [Act.put, List.setIfInBounds_toArray, List.set_cons_zero, List.set_cons_succ, i64_w, i32_w]
      rfl
    refine one_ (i := 1) (N := (some 20)) (bb 9 191) rfl rfl (one_of HT_.out (by kernel_rfl)) (by decide) (fun K hK => ?_)
    refine goes_ Tryd.func69 (by kernel_rfl) rfl #[.slice (some ad) 512 c, .int .i64 4, .int .i64 8] (by rfl) rfl rfl (by (try simp only [List.map_toArray, List.map_cons, List.map_nil]); first | done | rfl) ?_
    with_reducible refine (HN4.out _ HS3.out.below).mono ?_
    rintro e w4 ⟨rfl, hb⟩
    have HS4 := Aside0.mk (HS3.out.step hb)
    clear hb
    refine ⟨_, rfl, ?_⟩
    refine hK.out _ _ (HKC.out _ HS4.out.below) (fun hHeld => ?_)
    clear hK K
    refine norm_ (a' := ?_) ?_ ?_
    rotate_left
    · show Act.put _ (some 20) _ = _
      simp only [Act.put, List.setIfInBounds_toArray, List.set_cons_zero, List.set_cons_succ, i64_w, i32_w]
      rfl
    refine pure_ (i := 6) (N := (some 25)) (v := .agg V1) (a' := ?_) (bb 9 255) rfl rfl (any_of HT_.out (by kernel_rfl)) (fun _ _ _ h => h) (Or.inl ⟨by rfl, fun w' => yields_build 26 rfl V1 (by (try simp only [List.map_toArray, List.map_cons, List.map_nil]); exact HB1.out)⟩) ?_ ?_
    rotate_left
    · simp only [Act.put, List.setIfInBounds_toArray, List.set_cons_zero, List.set_cons_succ, i64_w, i32_w]
      rfl
    refine last_ (i := 8) (N := none) (bb 9 511) rfl rfl (one_of HT_.out (by kernel_rfl)) (by decide) (fun K hK => ?_)
    rw [if_pos (by rfl)]
    refine Sep.store_wp 26 _ _ rfl rfl rfl HS4.out HSV1.out HZV1.out HAV1.out (fun w5 h5 => ?_)
    have HS5 := Aside0.mk h5
    clear h5
    refine hK.out _ _ ?_
    clear hK K
    refine norm_ (a' := ?_) ?_ ?_
    rotate_left
    · show Act.put _ none _ = _
      simp only [Act.put, List.setIfInBounds_toArray, List.set_cons_zero, List.set_cons_succ, i64_w, i32_w]
      rfl
    refine done_ (done_of HT_.out (by kernel_rfl)) ?_
    have HSa := Aside0.mk (show Sep w w5 (cellsT g4 (RC.V ⟨n0, ky, []⟩ none 0).toArray 26 :: cellsT g2 Z 26 :: []) from by rw [HV1.out]; exact HS5.out)
    clear hHeld HS5 HS4 HS3 HSy HB1 HSV1 HAV1 HZV1 HV1 harr hcp hp1 HN4 HKC HSK hz
    have x44 : w5.cell? ⟨ad.block, ad.off + 44, none⟩ = some (.int .u8 q) := by
      have h := HBC.out _ HSa.out.below 44 (by decide)
      rwa [addr44, HQ.out] at h
    have hmn : min q 8 = (n : Int) := by have := HCN.out; omega
    go_upto_region 4 with (fail)
    go_upto_region 5 with (fail)
    have hn8 : (n : Int) ≤ 8 := by omega
    have HN8 := Aside0.mk (show n ≤ 8 by omega)
    clear x44 hmn
    go_loopg [31] n (fun kq v31 wr => ∃ i : Nat, v31 = .int .i64 i ∧ Aside0 (i + kq = n) ∧ Aside0 (∃ Ar cr, Sep w wr (cellsT g4 (RC.V ⟨n0, ky, refsAt b i⟩ Ar cr).toArray 26 :: ownT kRF 69 (.slice Ar i cr) (refsAt b i) :: cellsT g2 Z 26 :: [])))
    case atStart => exact ⟨0, rfl, ⟨by omega⟩, ⟨none, 0, (HSa.out.push_nil kRF 69).up1⟩⟩
    case round =>
      obtain ⟨i, rfl, HJ, hS⟩ := hrel
      clear HSa
      obtain ⟨Ar, cr, hS⟩ := hS.out
      have HS := Aside0.mk hS
      clear hS
      by_cases hi : i < n
      · have t0 : decide ((i : Int) < (n : Int)) = true := decide_eq_true (by omega)
        have hi1 : (i : Int) < (n : Int) := by omega
        have hi8 : (i : Int) < 8 := by omega
        have hcc : (512 : Int) ≤ (c : Int) := by have := HCc.out; omega
        have HI := Aside0.mk hi
        have HI8 := Aside0.mk (show i < 8 by omega)
        have HX := Aside0.mk (HRO.out i HI8.out)
        have HSN := Aside0.mk (refsAt_snoc b i)
        have HXE := Aside0.mk (show rfAt b i = ⟨keyAt b (45 + 40 * i), numAt b (45 + 40 * i + 32) 4, numAt b (45 + 40 * i + 36) 4⟩ from rfl)
        have HNf := Aside0.mk (fun W hw => HNW.out W hw (45 + 40 * i) 32 (by omega) 32 rfl (by omega))
        have HNl := Aside0.mk (fun W hw => HNW.out W hw (45 + 40 * i) 36 (by omega) 36 rfl (by omega))
        have HKX := Aside0.mk (fun W hw => HKW.out W hw (45 + 40 * i) (by omega))
        have HRL := Aside0.mk (refsAt_len b i)
        go_upto_region 8 with (fail)
        generalize numAt b (45 + 40 * i + 32) 4 = xf at HXE HNf
        generalize numAt b (45 + 40 * i + 36) 4 = xl at HXE HNl
        generalize keyAt b (45 + 40 * i) = kx at HXE HKX
        have HXL := Aside0.mk (show kx.length = 32 from by have h := HX.out.k; rwa [HXE.out] at h)
        have hcp32 : (32 : Int) ≤ ((c - (45 + 40 * i) : Nat) : Int) := by omega
        generalize ad.add (45 + 40 * i) = ap at HNf HNl HKX ⊢
        generalize 512 - (45 + 40 * i) = mp at HNf HNl ⊢
        generalize c - (45 + 40 * i) = cp at HNf HNl hcp32 ⊢
        have HBX := Aside0.mk (show Tryd.prog.built 69 [(0, .agg (nums .u8 kx).toArray), (1, .int .i64 xf), (2, .int .i64 xl)] = some (rfAt b i).V.toArray from by rw [HXE.out]; exact built69 kx HXL.out xf xl)
        have HSKx := Aside0.mk (show (Tryd.prog.info? 23).map (·.size) = some (nums .u8 kx).toArray.size from size23 (by simpa [nums_length] using HXL.out))
        generalize rfAt b i = x at HX HSN HBX
        generalize refsAt b i = rs at HS HSN HRL
        have HXV := Aside0.mk (show x.V.toArray.size = 34 from by simpa using RF.V_len HX.out)
        have harr := arr23 ap cp
        have HSz := Aside0.mk (HS.out.step (below_drew1 (Below.refl wr.heap.size wr)))
        clear HS HXE
        refine start_ (n := 15) (S := fun W => W.cell? ⟨g4, 33, none⟩ = some (.slice Ar i cr) ∧ (∀ j v, (nums .u8 kx)[j]? = some v → W.cell? (ap.add j) = some v)) (ds := [14]) (bb 15 0) (by kernel_rfl) rfl rfl (⟨rc_cell33 HKL.out HRL.out HSz.out, HKX.out _ HSz.out.below⟩) (fun hHeld => ?_); refine with_tabW dk8_tab dk8_bits (fun HT_ HW_ => ?_)
        generalize wr.drew = wd at hHeld HSz ⊢
        refine pure_ (i := 0) (N := (some 39)) (v := ?_) (a' := ?_) (bb 15 1) rfl rfl (any_of HT_.out (by kernel_rfl)) (fun _ _ _ h => h) (Or.inl ⟨by rfl, ?_⟩) ?_ ?_
        rotate_left
        · intro w'
          go_simp
          with_reducible rfl
        rotate_left
        · simp only [Act.put, List.setIfInBounds_toArray, List.set_cons_zero, List.set_cons_succ, i64_w, i32_w]
          rfl
        refine take_ (i := 1) (N := (some 40)) (v := ?_) (a' := ?_) (bb 15 3) rfl rfl (take_ofW HT_.out HW_.out (by kernel_rfl)) (fun _ _ _ h => h) (Or.inl ⟨by rfl, ?_⟩) hHeld ?_ ?_
        rotate_left
        · intro w' s0
          (try dsimp only at s0)
          go_simp
          with_reducible rfl
        rotate_left
        · simp only [Act.put, List.setIfInBounds_toArray, List.set_cons_zero, List.set_cons_succ, i64_w, i32_w]
          rfl
        refine pure_ (i := 2) (N := (some 41)) (v := ?_) (a' := ?_) (bb 15 7) rfl rfl (any_of HT_.out (by kernel_rfl)) (fun _ _ _ h => h) (Or.inl ⟨by rfl, ?_⟩) ?_ ?_
        rotate_left
        · intro w'
          go_simp
          with_reducible rfl
        rotate_left
        · simp only [Act.put, List.setIfInBounds_toArray, List.set_cons_zero, List.set_cons_succ, i64_w, i32_w]
          rfl
        refine pure_ (i := 3) (N := (some 42)) (v := ?_) (a' := ?_) (bb 15 15) rfl rfl (any_of HT_.out (by kernel_rfl)) (fun _ _ _ h => h) (Or.inl ⟨by rfl, ?_⟩) ?_ ?_
        rotate_left
        · intro w'
          go_simp
          with_reducible rfl
        rotate_left
        · simp only [Act.put, List.setIfInBounds_toArray, List.set_cons_zero, List.set_cons_succ, i64_w, i32_w]
          rfl
        refine pure_ (i := 4) (N := (some 43)) (v := ?_) (a' := ?_) (bb 15 31) rfl rfl (any_of HT_.out (by kernel_rfl)) (fun _ _ _ h => h) (Or.inl ⟨by rfl, ?_⟩) ?_ ?_
        rotate_left
        · intro w'
          go_simp
          with_reducible rfl
        rotate_left
        · simp only [Act.put, List.setIfInBounds_toArray, List.set_cons_zero, List.set_cons_succ, i64_w, i32_w]
          rfl
        refine take_ (i := 5) (N := (some 44)) (v := .agg (nums .u8 kx).toArray) (a' := ?_) (bb 15 63) rfl rfl (take_ofW HT_.out HW_.out (by kernel_rfl)) (fun _ _ _ h => h) (Or.inl ⟨by rfl, fun w' s0 => yields_ld 23 _ rfl ap rfl (nums .u8 kx).toArray _ s0.2 Tryd.underlying23 rfl HSKx.out⟩) hHeld ?_ ?_
        rotate_left
        · simp only [Act.put, List.setIfInBounds_toArray, List.set_cons_zero, List.set_cons_succ, i64_w, i32_w]
          rfl
        refine pure_ (i := 6) (N := (some 45)) (v := ?_) (a' := ?_) (bb 15 127) rfl rfl (any_of HT_.out (by kernel_rfl)) (fun _ _ _ h => h) (Or.inl ⟨by rfl, ?_⟩) ?_ ?_
        rotate_left
        · intro w'
          go_simp
          with_reducible rfl
        rotate_left
        · simp only [Act.put, List.setIfInBounds_toArray, List.set_cons_zero, List.set_cons_succ, i64_w, i32_w]
          rfl
        refine pure_ (i := 8) (N := (some 47)) (v := ?_) (a' := ?_) (bb 15 383) rfl rfl (any_of HT_.out (by kernel_rfl)) (fun _ _ _ h => h) (Or.inl ⟨by rfl, ?_⟩) ?_ ?_
        rotate_left
        · intro w'
          go_simp
          with_reducible rfl
        rotate_left
        · simp only [Act.put, List.setIfInBounds_toArray, List.set_cons_zero, List.set_cons_succ, i64_w, i32_w]
          rfl
        refine one_ (i := 7) (N := (some 46)) (bb 15 511) rfl rfl (one_of HT_.out (by kernel_rfl)) (by decide) (fun K hK => ?_)
        refine goes_ Tryd.func69 (by kernel_rfl) rfl #[.slice (some ap) mp cp, .int .i64 32, .int .i64 4] (by rfl) rfl rfl (by (try simp only [List.map_toArray, List.map_cons, List.map_nil]); first | done | rfl) ?_
        with_reducible refine (HNf.out _ HSz.out.below).mono ?_
        rintro e w6 ⟨rfl, hb⟩
        have HS6 := Aside0.mk (HSz.out.step hb)
        clear hb
        refine ⟨_, rfl, ?_⟩
        refine hK.out _ _ (⟨rc_cell33 HKL.out HRL.out HS6.out, HKX.out _ HS6.out.below⟩) (fun hHeld => ?_)
        clear hK K
        refine norm_ (a' := ?_) ?_ ?_
        rotate_left
        · show Act.put _ (some 46) _ = _
          simp only [Act.put, List.setIfInBounds_toArray, List.set_cons_zero, List.set_cons_succ, i64_w, i32_w]
          rfl
        refine one_ (i := 9) (N := (some 48)) (bb 15 1023) rfl rfl (one_of HT_.out (by kernel_rfl)) (by decide) (fun K hK => ?_)
        refine goes_ Tryd.func69 (by kernel_rfl) rfl #[.slice (some ap) mp cp, .int .i64 36, .int .i64 4] (by rfl) rfl rfl (by (try simp only [List.map_toArray, List.map_cons, List.map_nil]); first | done | rfl) ?_
        with_reducible refine (HNl.out _ HS6.out.below).mono ?_
        rintro e w7 ⟨rfl, hb⟩
        have HS7 := Aside0.mk (HS6.out.step hb)
        clear hb
        refine ⟨_, rfl, ?_⟩
        refine hK.out _ _ (⟨rc_cell33 HKL.out HRL.out HS7.out, HKX.out _ HS7.out.below⟩) (fun hHeld => ?_)
        clear hK K
        refine norm_ (a' := ?_) ?_ ?_
        rotate_left
        · show Act.put _ (some 48) _ = _
          simp only [Act.put, List.setIfInBounds_toArray, List.set_cons_zero, List.set_cons_succ, i64_w, i32_w]
          rfl
        refine pure_ (i := 10) (N := (some 49)) (v := .agg x.V.toArray) (a' := ?_) (bb 15 2047) rfl rfl (any_of HT_.out (by kernel_rfl)) (fun _ _ _ h => h) (Or.inl ⟨by rfl, fun w' => yields_build 69 rfl x.V.toArray (by (try simp only [List.map_toArray, List.map_cons, List.map_nil]); exact HBX.out)⟩) ?_ ?_
        rotate_left
        · simp only [Act.put, List.setIfInBounds_toArray, List.set_cons_zero, List.set_cons_succ, i64_w, i32_w]
          rfl
        refine one_ (i := 11) (N := (some 50)) (bb 15 4095) rfl rfl (one_of HT_.out (by kernel_rfl)) (by decide) (fun K hK => ?_)
        rw [if_pos (by rfl)]
        refine wp_bs69 _ rfl x.V.toArray rfl HXV.out ?_
        have HS8 := Aside0.mk (HS7.out.step (below_alloc (Below.refl w7.heap.size w7) (.cells x.V.toArray 69)))
        refine hK.out _ _ (⟨rc_cell33 HKL.out HRL.out HS8.out, HKX.out _ HS8.out.below⟩) (fun hHeld => ?_)
        clear hK K
        refine norm_ (a' := ?_) ?_ ?_
        rotate_left
        · show Act.put _ (some 50) _ = _
          simp only [Act.put, List.setIfInBounds_toArray, List.set_cons_zero, List.set_cons_succ, i64_w, i32_w]
          rfl
        refine one_ (i := 12) (N := (some 51)) (bb 15 8191) rfl rfl (one_of HT_.out (by kernel_rfl)) (by decide) (fun K hK => ?_)
        refine Sep.app_ref_step (by rfl) _ _ rfl x HX.out rfl rfl HS7.out.up1 (by rw [HRL.out]; omega) ?_
        intro v1 wa ha
        obtain ⟨A1, c1, hv⟩ := ha.own_slice
        rw [show (rs ++ [x]).length = i + 1 from by rw [List.length_append, HRL.out]; rfl] at hv
        subst hv
        have HS9 := Aside0.mk ha
        have z1 := rc_cell33 HKL.out HRL.out HS9.out.up1
        have z2 := blk_frozen HS9.out.up1.cells.1 33
        clear ha
        refine hK.out _ _ (⟨rc_cell33 HKL.out HRL.out HS9.out.up1, HKX.out _ HS9.out.below⟩) (fun hHeld => ?_)
        clear hK K
        refine norm_ (a' := ?_) ?_ ?_
        rotate_left
        · show Act.put _ (some 51) _ = _
          simp only [Act.put, List.setIfInBounds_toArray, List.set_cons_zero, List.set_cons_succ, i64_w, i32_w]
          rfl
        refine pure_ (i := 13) (N := (some 52)) (v := ?_) (a' := ?_) (bb 15 16383) rfl rfl (any_of HT_.out (by kernel_rfl)) (fun _ _ _ h => h) (Or.inl ⟨by rfl, ?_⟩) ?_ ?_
        rotate_left
        · intro w'
          go_simp
          with_reducible rfl
        rotate_left
        · simp only [Act.put, List.setIfInBounds_toArray, List.set_cons_zero, List.set_cons_succ, i64_w, i32_w]
          rfl
        refine last_ (i := 14) (N := none) (bb 15 32767) rfl rfl (one_of HT_.out (by kernel_rfl)) (by decide) (fun K hK => ?_)
        refine skip_ (w1 := ?_) (by rfl) rfl ?_ ?_
        rotate_left
        · go_simp
          first | rfl | (constructor <;> rfl)
        refine hK.out _ _ ?_
        clear hK K
        refine done_ (done_of HT_.out (by kernel_rfl)) ?_
        have HSd := Aside0.mk (show Sep w (wa.setCell ⟨g4, 33, none⟩ (.slice A1 (i + 1) c1)) (cellsT g4 (RC.V ⟨n0, ky, rs ++ [x]⟩ A1 c1).toArray 26 :: ownT kRF 69 (.slice A1 (i + 1) c1) (rs ++ [x]) :: cellsT g2 Z 26 :: []) from by
          have h := HS9.out.up1.cset 33 (.slice A1 (i + 1) c1)
          rwa [RC.set33 n0 ky HKL.out rs (rs ++ [x]) _ A1 _ c1 (i + 1) (by rw [List.length_append, HRL.out]; rfl)] at h)
        clear z1 z2 HS9 HS8 HS7 HS6 HSz hHeld harr
        generalize wa.setCell ⟨g4, 33, none⟩ (.slice A1 (i + 1) c1) = wb at HSd ⊢
        go_wp2
        go_roundg (n - (i + 1))
        case measure => have := HJ.out; have := HI.out; omega
        case rel => exact ⟨i + 1, rfl, ⟨by have := HJ.out; have := HI.out; omega⟩, ⟨A1, c1, by rw [HSN.out]; exact HSd.out⟩⟩
      · have hi3 : i = n := by have := HJ.out; omega
        have t0 : decide ((i : Int) < (n : Int)) = false := decide_eq_false (by omega)
        subst hi3
        have HSe := Aside0.mk (show Sep w wr (cellsT g4 (s.V Ar cr).toArray 26 :: ownT kRF 69 (.slice Ar i cr) s.r :: cellsT g2 Z 26 :: []) from by rw [HRJ.out]; exact HS.out)
        have HRn := Aside0.mk (show s.r.length = i from by rw [HRJ.out]; exact refsAt_len b i)
        clear HS HRJ
        have HCr := Aside0.mk (HSe.out.up1.own_C).1
        have HEY := Aside0.mk (fun (hm : errJ s = 0) => encode_yes s HOK.out ((err_iff s).1 hm) Ar cr wr (HHf.out.below HSe.out.below) HCr.out)
        have HEX := Aside0.mk (fun (hm : ¬ errJ s = 0) => encode_no s HOK.out hm Ar cr wr HCr.out)
        have HEB := Aside0.mk (fun (hm : errJ s = 0) => (show bytes_ (encJ s) ∧ (encJ s).length = 512 from ⟨bytes_encJ HOK.out ((err_iff s).1 hm).r8, encJ_len HOK.out ((err_iff s).1 hm).r8⟩))
        have HSV := Aside0.mk (RC.size HOK.out Ar cr)
        have HAV := Aside0.mk (RC.V_all s Ar cr)
        have HZN := Aside0.mk (show Z.size = (s.V Ar cr).toArray.size from by
          have h1 := HSZ.out
          have h2 := HSV.out
          rw [h1] at h2
          simpa using h2)
        generalize hV : (s.V Ar cr).toArray = V at HSe HEY HEX HSV HAV HZN
        have HV := Aside0.mk hV
        clear hV HCr
        have HLD := Aside0.mk (fun W (M : List Th) (h : Sep w W (cellsT g4 V 26 :: M)) => (show ∀ j v, V.toList[j]? = some v → W.cell? ((⟨g4, 0, none⟩ : Addr).add j) = some v from fun j v hv => seg_at (cs := V.toList) h.cells.1 0 V.toList (by rw [List.drop_zero]; exact List.take_of_length_le (Nat.le_refl _)) j v hv))
        by_cases hm : errJ s = 0
        · have HEB := Aside0.mk (HEB.out hm)
          have HM := Aside0.mk hm
          go_upto_region 11 with (first
            | ((with_reducible refine gate_load (ty := 26) rfl ?_); refine wpList_ldw ?_ 26 _ rfl ⟨g4, 0, none⟩ ?_ V _ (HLD.out _ _ HSe.out) Tryd.underlying26 rfl HSV.out ?_; exact rfl; exact rfl; skip)
            | (go_at_call 17; (with_reducible refine (HEY.out HM.out).mono ?_); rintro e wc ⟨A5, c5, rfl, h5⟩; have HSf := Aside0.mk (HSe.out.then_ h5); clear h5))
          have HC5 := Aside0.mk (show (Kd.int .u8).C wc A5 512 (encJ s) ∧ 512 ≤ c5 from by have h := HSf.out.own_C; rwa [HEB.out.2] at h)
          have HSM := Aside0.mk (same70 HC5.out.1 (HCB.out _ HSf.out.below) HEB.out.2 HBM.out.2 HC5.out.2 HCc.out HEB.out.1 HBM.out.1)
          clear HSe HEY HEX
          by_cases hq : encJ s = b
          · have t3 : decide (encJ s = b) = true := decide_eq_true hq
            rw [t3] at HSM
            have HQQ := Aside0.mk hq
            clear hq t3
            go_wp2_with (first
              | (go_at_call 70; (with_reducible refine HSM.out.mono ?_); rintro e wd2 ⟨rfl, hb⟩; have HSg := Aside0.mk (HSf.out.step hb); clear hb)
              | ((with_reducible refine gate_load (ty := 26) rfl ?_); refine wpList_ldw ?_ 26 _ rfl ⟨g4, 0, none⟩ ?_ V _ (HLD.out _ _ HSg.out.up1) Tryd.underlying26 rfl HSV.out ?_; exact rfl; exact rfl; skip)
              | ((with_reducible refine gate_store (ty := 26) rfl ?_); refine Sep.store_own rfl 26 _ _ rfl rfl rfl HSg.out.up3 HSV.out HZN.out HAV.out ?_; intro we h7; have HSh := Aside0.mk h7; clear h7))
            refine bodyPost_ret (results_row_tmp (p := 2) (u := 3) (ty := 26) rfl _ _ g2 26 V (0, 0) _ _ rfl rfl HSh.out.cells.1 Tryd.underlying26 rfl HSV.out) rfl ⟨fun _ => ⟨Ar, cr, by rw [HV.out]; rfl, ?_⟩, fun h => absurd ⟨HM.out, HQQ.out⟩ h⟩
            rw [HRn.out]
            exact HSh.out.sel 4 [3] _ rfl (by decide) rfl
          · have t3 : decide (encJ s = b) = false := decide_eq_false hq
            rw [t3] at HSM
            have HQQ := Aside0.mk hq
            clear hq t3
            go_wp2_with (first
              | (go_at_call 70; (with_reducible refine HSM.out.mono ?_); rintro e wd2 ⟨rfl, hb⟩; have HSg := Aside0.mk (HSf.out.step hb); clear hb)
              | ((with_reducible refine gate_build (ty := 26) rfl ?_); refine wpList_buildTo rfl 26 _ rfl (some 67) rfl Z ?aB ?_; (case aB => (simp only [List.map_toArray, List.map_nil]; exact HBZ.out)))
              | ((with_reducible refine gate_store (ty := 26) rfl ?_); refine Sep.store_own rfl 26 _ _ rfl rfl rfl HSg.out.up3 HSZ.out rfl HZA.out ?_; intro we h7; have HSh := Aside0.mk h7; clear h7))
            refine bodyPost_ret (results_row_tmp (p := 2) (u := 3) (ty := 26) rfl _ _ g2 26 Z (0, 0) _ _ rfl rfl HSh.out.cells.1 Tryd.underlying26 rfl HSZ.out) rfl ⟨fun h => absurd h.2 HQQ.out, fun _ => ⟨rfl, HSh.out.below⟩⟩
        · have HM := Aside0.mk hm
          have HEX2 := Aside0.mk (HEX.out hm)
          have t3 : ¬ errJ s = 0 := hm
          go_upto_region 11 with (first
            | ((with_reducible refine gate_load (ty := 26) rfl ?_); refine wpList_ldw ?_ 26 _ rfl ⟨g4, 0, none⟩ ?_ V _ (HLD.out _ _ HSe.out) Tryd.underlying26 rfl HSV.out ?_; exact rfl; exact rfl; skip)
            | (go_at_call 17; (with_reducible refine HEX2.out.mono ?_); rintro e wc ⟨rfl, hb⟩; have HSg := Aside0.mk (HSe.out.step hb); clear hb))
          clear HSe HEY HEX
          go_wp2_with (first
            | ((with_reducible refine gate_build (ty := 26) rfl ?_); refine wpList_buildTo rfl 26 _ rfl (some 67) rfl Z ?aB ?_; (case aB => (simp only [List.map_toArray, List.map_nil]; exact HBZ.out)))
            | ((with_reducible refine gate_store (ty := 26) rfl ?_); refine Sep.store_own rfl 26 _ _ rfl rfl rfl HSg.out.up2 HSZ.out rfl HZA.out ?_; intro we h7; have HSh := Aside0.mk h7; clear h7))
          refine bodyPost_ret (results_row_tmp (p := 2) (u := 3) (ty := 26) rfl _ _ g2 26 Z (0, 0) _ _ rfl rfl HSh.out.cells.1 Tryd.underlying26 rfl HSZ.out) rfl ⟨fun h => absurd h.1 HM.out, fun _ => ⟨rfl, HSh.out.below⟩⟩
end Go.Proofs.YtagodmmpkapgnaaDoor.M

namespace Go.Proofs.YtagodmmpkapgnaaDoor.M
open Go.RowKit Go.Maps Go.Proofs.YtagodmmpkapgnaaDoorW.PrintWords Go.Proofs.YtagodmmpkapgnaaDoorW.PrintLast Go.Proofs.YtagodmmpkapgnaaDoorW.PrintMore Go.Proofs.YtagodmmpkapgnaaDoor.Wr Go.Proofs.YtagodmmpkapgnaaDoor.Pl Go.Proofs.YtagodmmpkapgnaaDoor.P Go.Proofs.YtagodmmpkapgnaaDoor.A
set_option linter.unusedVariables false
set_option linter.unusedSimpArgs false
theorem decJ_is {b : List Int} {s : RC} (h : decJ b = some s) : b.length = 512 ∧ readJ b = s ∧ errJ s = 0 ∧ encJ s = b := by
  unfold decJ at h
  split at h
  · rename_i hc
    cases h
    exact ⟨hc.1, rfl, hc.2.1, hc.2.2⟩
  · cases h
theorem decJ_not {b : List Int} (h : decJ b = none) (hl : b.length = 512) : ¬ (errJ (readJ b) = 0 ∧ encJ (readJ b) = b) := by
  unfold decJ at h
  split at h
  · cases h
  · rename_i hc
    exact fun hx => hc ⟨hl, hx.1, hx.2⟩
theorem cnt_ok {b : List Int} (hb : bytes_ b) {s : RC} (h : decJ b = some s) : 1 ≤ b.getD 44 0 ∧ b.getD 44 0 ≤ 8 := by
  refine ⟨?_, ?_⟩
  · by_cases hx : 1 ≤ b.getD 44 0
    · exact hx
    · rw [decJ_cnt hb (.inl (by omega))] at h
      cases h
  · by_cases hx : b.getD 44 0 ≤ 8
    · exact hx
    · rw [decJ_cnt hb (.inr (by omega))] at h
      cases h
theorem magic_ok {b : List Int} {s : RC} (h : decJ b = some s) : b.take 4 = magicJ := by
  by_cases hx : b.take 4 = [119, 111, 114, 107]
  · exact hx
  · rw [decJ_magic hx] at h
    cases h
theorem decode_some (b : List Int) (hb : bytes_ b) (A : Option Addr) (m c : Nat) (hm : b.length = m) (hc : m ≤ c) (w : World) (hH : Wr.Half w) (hC : (Kd.int .u8).C w A m b) (s : RC) (h : decJ b = some s) :
    Calls Tryd.prog 24 #[.slice A m c] w fun e w' => ∃ A' c', e = .returned (.tuple #[.agg (s.V A' c').toArray, .int .i64 0]) ∧ Sep w w' [ownT kRF 69 (.slice A' s.r.length c') s.r] := by
  obtain ⟨h1, h2, h3, h4⟩ := decJ_is h
  obtain rfl : m = 512 := by omega
  exact (decode_run b hb h1 A c hc w hH hC (magic_ok h) s h2).mono fun e w' hx => hx.1 ⟨h3, h4⟩
theorem decode_none (b : List Int) (hb : bytes_ b) (A : Option Addr) (m c : Nat) (hm : b.length = m) (hc : m ≤ c) (w : World) (hH : Wr.Half w) (hC : (Kd.int .u8).C w A m b) (h : decJ b = none) :
    Calls Tryd.prog 24 #[.slice A m c] w fun e w' => e = .returned (.tuple #[.agg zRC, .int .i64 61]) ∧ Below w.heap.size w w' := by
  by_cases h1 : m = 512
  · by_cases h2 : b.take 4 = magicJ
    · subst h1
      exact (decode_run b hb hm A c hc w hH hC h2 _ rfl).mono fun e w' hx => hx.2 (decJ_not h hm)
    · exact decode_early b hb m hm A c hc w hC (.inr h2)
  · exact decode_early b hb m hm A c hc w hC (.inl h1)
theorem decode17_some (b : List Int) (hb : bytes_ b) (A : Option Addr) (m c : Nat) (hm : b.length = m) (hc : m ≤ c) (w : World) (hC : (Kd.int .u8).C w A m b) (s : RC) (h : decJ b = some s) :
    Calls Tryd.prog 25 #[.slice A m c] w fun e w' => ∃ A' c', e = .returned (.tuple #[.agg (s.V A' c').toArray, .bool true]) ∧ Sep w w' [ownT kRF 69 (.slice A' s.r.length c') s.r] := by
  obtain ⟨h1, h2, h3, h4⟩ := decJ_is h
  obtain rfl : m = 512 := by omega
  exact (decode17_run b hb h1 A c hc w hC (cnt_ok hb h).1 (cnt_ok hb h).2 s h2).mono fun e w' hx => hx.1 ⟨h3, h4⟩
theorem decode17_none (b : List Int) (hb : bytes_ b) (A : Option Addr) (m c : Nat) (hm : b.length = m) (hc : m ≤ c) (w : World) (hC : (Kd.int .u8).C w A m b) (h : decJ b = none) :
    Calls Tryd.prog 25 #[.slice A m c] w fun e w' => e = .returned (.tuple #[.agg zRC, .bool false]) ∧ Below w.heap.size w w' := by
  by_cases h1 : m = 512
  · by_cases h2 : 1 ≤ b.getD 44 0 ∧ b.getD 44 0 ≤ 8
    · subst h1
      exact (decode17_run b hb hm A c hc w hC h2.1 h2.2 _ rfl).mono fun e w' hx => hx.2 (decJ_not h hm)
    · exact decode17_early b hb m hm A c w hC (.inr (by omega))
  · exact decode17_early b hb m hm A c w hC (.inl h1)
theorem same_l0 (x y : List Int) (h : x.length = y.length) (hl : x.length ≤ 4611686018427387904) : ∀ (m i : Nat), i + m = x.length → Ev (fun k => kilnlaw2_Same.l0 k x y (i : Int)) (decide (x.drop i = y.drop i)) := by
  intro m
  induction m with
  | zero =>
    intro i hi
    refine Ev.step (fun k => by simp only [kilnlaw2_Same.l0]; rw [if_neg (by omega)]) (Ev.some_ ?_)
    rw [List.drop_of_length_le (by omega), List.drop_of_length_le (by omega)]
    simp
  | succ m ih =>
    intro i hi
    obtain ⟨c, hd, hr, hc⟩ := rd_drop (show i < x.length by omega)
    obtain ⟨d, hd2, hr2, hc2⟩ := rd_drop (show i < y.length by omega)
    rw [hd, hd2]
    by_cases e : c = d
    · refine Ev.step (fun k => by simp only [kilnlaw2_Same.l0]; rw [if_pos (by omega), if_pos (by omega), if_pos (by omega), hr, hr2, if_pos e, w64 (by omega) (by omega), show (i : Int) + 1 = ((i + 1 : Nat) : Int) by omega]) ?_
      have h2 := ih (i + 1) (by omega)
      have e2 : decide (c :: x.drop (i + 1) = d :: y.drop (i + 1)) = decide (x.drop (i + 1) = y.drop (i + 1)) := by simp [e]
      rw [e2]
      exact h2
    · refine Ev.step (fun k => by simp only [kilnlaw2_Same.l0]; rw [if_pos (by omega), if_pos (by omega), if_pos (by omega), hr, hr2, if_neg e]) (Ev.some_ ?_)
      simp [e]
theorem same_f (x y : List Int) (hl : x.length ≤ 4611686018427387904) : ∃ k, kilnlaw2_Same.f k x y = some (decide (x = y)) := by
  by_cases h : x.length = y.length
  · obtain ⟨K, hK⟩ := same_l0 x y h hl x.length 0 (Nat.zero_add _)
    refine ⟨K, ?_⟩
    unfold kilnlaw2_Same.f
    rw [if_pos (by omega)]
    have h2 := hK K (Nat.le_refl _)
    rwa [List.drop_zero, List.drop_zero] at h2
  · refine ⟨0, ?_⟩
    unfold kilnlaw2_Same.f
    rw [if_neg (by omega), decide_eq_false (fun e => h (by rw [e]))]
theorem same19 {w : World} {A1 A2 : Option Addr} {m1 m2 c1 c2 : Nat} {x y : List Int} (h1 : (Kd.int .u8).C w A1 m1 x) (h2 : (Kd.int .u8).C w A2 m2 y) (hm1 : x.length = m1) (hm2 : y.length = m2) (hc1 : m1 ≤ c1) (hc2 : m2 ≤ c2) (hl : m1 ≤ 4611686018427387904) :
    Calls Tryd.prog 19 #[.slice A1 m1 c1, .slice A2 m2 c2] w fun e w' => e = .returned (.bool (decide (x = y))) ∧ Below w.heap.size w w' := by
  subst hm1 hm2
  obtain ⟨k, hk⟩ := same_f x y hl
  refine (kilnlaw2_Same.calls k A1 c1 x A2 c2 y (decide (x = y)) w h1 hc1 h2 hc2 hk).mono ?_
  rintro e w' ⟨rfl, k, rfl⟩
  exact ⟨rfl, pw_below_drewN (Below.refl _ _) _⟩
end Go.Proofs.YtagodmmpkapgnaaDoor.M

namespace Go.Proofs.YtagodmmpkapgnaaDoor.M
open Go.RowKit Go.Maps Go.Proofs.YtagodmmpkapgnaaDoorW.PrintWords Go.Proofs.YtagodmmpkapgnaaDoorW.PrintLast Go.Proofs.YtagodmmpkapgnaaDoorW.PrintMore Go.Proofs.YtagodmmpkapgnaaDoor.Wr Go.Proofs.YtagodmmpkapgnaaDoor.Pl Go.Proofs.YtagodmmpkapgnaaDoor.P Go.Proofs.YtagodmmpkapgnaaDoor.A
set_option linter.unusedVariables false
set_option linter.unusedSimpArgs false
def keyO (x : Int) : List Int := [x, 7, 0, 0, 0, 0, 0, 0, 0, 0, 0, 0, 0, 0, 0, 0, 0, 0, 0, 0, 0, 0, 0, 0, 0, 0, 0, 0, 0, 0, 0, 0]
def oneR (n : Int) : RC := ⟨n, keyO (n % 256), [⟨keyO (n % 256), 20 + n.tmod 100, 300⟩]⟩
set_option maxRecDepth 100000 in
theorem built23o (x : Int) : Tryd.prog.built 23 [(0, .int .u8 x), (1, .int .u8 7)] = some (nums .u8 (keyO x)).toArray := by kernel_rfl
set_option maxRecDepth 100000 in
theorem built26f (n : Int) (ky : List Int) (h : ky.length = 32) (r : List RF) (A : Option Addr) (c m : Nat) (hm : r.length = m) : Tryd.prog.built 26 [(0, .int .i64 n), (1, .agg (nums .u8 ky).toArray), (2, .slice A m c)] = some (RC.V ⟨n, ky, r⟩ A c).toArray := by
  subst hm
  obtain ⟨x0, x1, x2, x3, x4, x5, x6, x7, x8, x9, x10, x11, x12, x13, x14, x15, x16, x17, x18, x19, x20, x21, x22, x23, x24, x25, x26, x27, x28, x29, x30, x31, rfl⟩ := list32 ky h
  kernel_rfl
theorem Sep.push_ref {w0 w : World} {L : List Th} (h : Sep w0 w L) (x : RF) (hx : x.Ok) : Sep w0 (w.alloc (.cells x.V.toArray 69)) (ownT kRF 69 (.slice (some ⟨w.heap.size, 0, none⟩) 1 1) [x] :: L) := by
  refine h.push_own (ok := fun _ => True) ⟨fun _ _ => trivial, x.V, ?_, ?_⟩ (below_alloc (Below.refl _ _) _)
  · have h2 := World.ownsRow_lit (base := w.heap.size) (e := 69) (size := 34) w x.V.toArray 1 (Nat.le_refl _) (by decide) (by simpa using RF.V_len hx)
    have h4 : (w.alloc (.cells x.V.toArray 69)).ownsRow w.heap.size 69 34 (.slice (some ⟨w.heap.size, 0, none⟩) 1 1) 1 x.V := by simpa using h2
    exact h4
  · have h3 := Reps.snoc (Reps.none (kRF.M (w.alloc (.cells x.V.toArray 69)) w.heap.size (fun k => True ∧ some k ≠ (Value.slice (some ⟨w.heap.size, 0, none⟩) 1 1).ownBlock)) 34) (p := x) (c := x.V) ⟨hx, rfl⟩ (RF.V_len hx)
    exact h3
set_option maxHeartbeats 8000000 in
set_option maxRecDepth 100000 in
theorem one_calls (n : Int) (w : World) : Calls Tryd.prog 36 #[.int .i64 n] w fun e w' => ∃ A c, e = .returned (.agg ((oneR n).V A c).toArray) ∧ Sep w w' [ownT kRF 69 (.slice A 1 c) (oneR n).r] := by
  have HS0 := Aside0.mk (Sep.refl w)
  have hz := (zero_of_info (P := Tryd.prog) (t := 26) (v := .agg zRC) (n := 34) (by unfold zRC; kernel_rfl)).1
  have hz3 := (zero_of_info (P := Tryd.prog) (t := 23) (v := .agg (nums .u8 (List.replicate 32 0)).toArray) (n := 32) (by kernel_rfl)).1
  generalize hK : (nums .u8 (List.replicate 32 0)).toArray = K at hz3
  have HKs := Aside0.mk (show K.size = 32 from by rw [← hK]; simp [nums_length])
  have HSZ := Aside0.mk (show (Tryd.prog.info? 26).map (·.size) = some zRC.size from size26 zRC_size)
  have HZs := Aside0.mk zRC_size
  generalize zRC = Z at hz HSZ HZs
  have HB3 := Aside0.mk (built23o (n % 256))
  have HSK := Aside0.mk (show (Tryd.prog.info? 23).map (·.size) = some (nums .u8 (keyO (n % 256))).toArray.size from size23 rfl)
  have HKA := Aside0.mk (nums_all (keyO (n % 256)))
  have HKV := Aside0.mk (show K.size = (nums .u8 (keyO (n % 256))).toArray.size from HKs.out)
  have HX := Aside0.mk (show (⟨keyO (n % 256), 20 + n.tmod 100, 300⟩ : RF).Ok from ⟨rfl, fun x hx => by simp [keyO] at hx; omega⟩)
  have HRE := Aside0.mk (show oneR n = ⟨n, keyO (n % 256), [⟨keyO (n % 256), 20 + n.tmod 100, 300⟩]⟩ from rfl)
  have HB6 := Aside0.mk (built69 (keyO (n % 256)) rfl (20 + n.tmod 100) 300)
  have HB2 := Aside0.mk (fun A c => built26f n (keyO (n % 256)) rfl [⟨keyO (n % 256), 20 + n.tmod 100, 300⟩] A c 1 rfl)
  have HVA := Aside0.mk (fun A c => RC.V_all ⟨n, keyO (n % 256), [⟨keyO (n % 256), 20 + n.tmod 100, 300⟩]⟩ A c)
  have HVS := Aside0.mk (fun A c => (show (RC.V ⟨n, keyO (n % 256), [⟨keyO (n % 256), 20 + n.tmod 100, 300⟩]⟩ A c).toArray.size = 34 from rc_sz rfl))
  generalize keyO (n % 256) = ky at HB3 HSK HKA HKV HX HRE HB6 HB2 HVA HVS
  have hq0 : -100 < n.tmod 100 := Int.lt_tmod_of_pos n (by decide)
  have hq1 : n.tmod 100 < 100 := Int.tmod_lt_of_pos n (by decide)
  have HB7 := Aside0.mk (show Tryd.prog.built 69 [(0, .agg (nums .u8 ky).toArray), (1, .int .i64 (20 + n.tmod 100)), (2, .int .i64 300)] = some (RF.V ⟨ky, 20 + n.tmod 100, 300⟩).toArray from HB6.out)
  clear HB6
  generalize (⟨ky, 20 + n.tmod 100, 300⟩ : RF) = x at HX HRE HB2 HVA HVS HB7
  clear hK
  go_enter Tryd.func36, Tryd.ntmps36
  go_upto_region 1 with (fail)
  have HS2 := Aside0.mk (HS0.out.push_alloc Z 26)
  generalize w.alloc (.cells Z 26) = w2 at HS2 ⊢
  generalize w.heap.size = g2 at HS2 ⊢
  go_upto_region 2 with (first
    | ((with_reducible refine gate_build (ty := 23) rfl ?_); refine wpList_buildTo rfl 23 _ rfl (some 6) rfl (nums .u8 ky).toArray ?aB ?_; (case aB => (simp only [List.map_toArray, List.map_cons, List.map_nil]; exact HB3.out)))
    | ((with_reducible refine gate_store (ty := 23) rfl ?_); refine Sep.store_own rfl 23 _ _ rfl rfl rfl (HS2.out.push_alloc K 23) HSK.out HKV.out HKA.out ?_; intro w3 h3; have HS3 := Aside0.mk h3; clear h3))
  generalize w2.heap.size = g3 at HS3 ⊢
  clear HS2 HS0 hz3
  have HLD := Aside0.mk (show ∀ j v, (nums .u8 ky).toArray.toList[j]? = some v → w3.cell? ((⟨g3, 0, none⟩ : Addr).add j) = some v from fun j v hv => seg_at (cs := nums .u8 ky) HS3.out.cells.1 0 (nums .u8 ky) (by rw [List.drop_zero]; exact List.take_of_length_le (Nat.le_refl _)) j v (by simpa using hv))
  have HXV := Aside0.mk (show x.V.toArray.size = 34 from by simpa using RF.V_len HX.out)
  have HS4 := Aside0.mk (HS3.out.push_ref x HX.out)
  have HSV := Aside0.mk (fun A c => (show (Tryd.prog.info? 26).map (·.size) = some (RC.V ⟨n, ky, [x]⟩ A c).toArray.size from size26 (HVS.out A c)))
  have HZV := Aside0.mk (fun A c => (show Z.size = (RC.V ⟨n, ky, [x]⟩ A c).toArray.size from by rw [HZs.out, HVS.out]))
  go_wp2_with (first
    | ((with_reducible refine gate_load (ty := 23) rfl ?_); refine wpList_ldw ?_ 23 _ rfl ⟨g3, 0, none⟩ ?_ (nums .u8 ky).toArray _ HLD.out Tryd.underlying23 rfl HSK.out ?_; exact rfl; exact rfl; skip)
    | ((with_reducible refine gate_build (ty := 69) rfl ?_); refine wpList_buildTo rfl 69 _ rfl (some 13) rfl x.V.toArray ?aB ?_; (case aB => (simp only [List.map_toArray, List.map_cons, List.map_nil]; exact HB7.out)))
    | ((with_reducible refine gate_bs (ty := 24) rfl ?_); refine wpList_bs69 rfl _ rfl x.V.toArray rfl HXV.out ?_)
    | ((with_reducible refine gate_build (ty := 26) rfl ?_); refine wpList_buildTo rfl 26 _ rfl (some 15) rfl (RC.V ⟨n, ky, [x]⟩ (some ⟨w3.heap.size, 0, none⟩) 1).toArray ?aB ?_; (case aB => (simp only [List.map_toArray, List.map_cons, List.map_nil]; exact HB2.out _ _)))
    | ((with_reducible refine gate_store (ty := 26) rfl ?_); refine Sep.store_own rfl 26 _ _ rfl rfl rfl HS4.out.up2 (HSV.out _ _) (HZV.out _ _) (HVA.out _ _) ?_; intro w5 h5; have HS5 := Aside0.mk h5; clear h5))
  refine bodyPost_ret (results_cell_row (p := 2) (ty := 26) rfl _ _ g2 26 (RC.V ⟨n, ky, [x]⟩ (some ⟨w3.heap.size, 0, none⟩) 1).toArray (0, 0) _ rfl HS5.out.cells.1 Tryd.underlying26 rfl (HSV.out _ _)) rfl ?_
  rw [HRE.out]
  exact ⟨_, _, rfl, HS5.out.sel 3 [1] _ rfl (by decide) rfl⟩
end Go.Proofs.YtagodmmpkapgnaaDoor.M

namespace Go.Proofs.YtagodmmpkapgnaaDoor.M
open Go.RowKit Go.Maps Go.Proofs.YtagodmmpkapgnaaDoorW.PrintWords Go.Proofs.YtagodmmpkapgnaaDoorW.PrintLast Go.Proofs.YtagodmmpkapgnaaDoorW.PrintMore Go.Proofs.YtagodmmpkapgnaaDoor.Wr Go.Proofs.YtagodmmpkapgnaaDoor.Pl Go.Proofs.YtagodmmpkapgnaaDoor.P Go.Proofs.YtagodmmpkapgnaaDoor.A
set_option linter.unusedVariables false
set_option linter.unusedSimpArgs false
theorem part_u8 (l : List Int) (W : World) (i : Nat) (h : i < l.length) : (Go.part 5 (nums .u8 l).toArray (i * 1)).run Tryd.prog W = .ok (.int .u8 (l.getD i 0)) W := by
  have hu : Tryd.prog.underlying 5 = some (.int .u8) := by kernel_rfl
  have hagg : (isAgg 5).run Tryd.prog W = .ok false W := by
    unfold isAgg
    rw [Sem.run_bind, run_underlying hu W]
    simp
  unfold Go.part
  rw [Sem.run_bind, hagg]
  simp only [Result.andThen_ok, Nat.mul_one, Bool.false_eq_true, if_false]
  have e : (nums .u8 l).toArray[i]? = some (.int .u8 (l.getD i 0)) := by
    unfold nums
    simp [List.getElem?_eq_getElem h]
  rw [e]
  simp
theorem eqItems_all (d : Nat) (l m : List Int) (W : World) : ∀ is : List Nat, (∀ i, i ∈ is → i < l.length ∧ i < m.length) → (Op.eqItems (d + 1) 5 1 (nums .u8 l).toArray (nums .u8 m).toArray is).run Tryd.prog W = .ok (is.all fun i => l.getD i 0 == m.getD i 0) W
  | [], _ => by simp [Op.eqItems]
  | i :: is, h => by
    have hu : Tryd.prog.underlying 5 = some (.int .u8) := by kernel_rfl
    have he : (Op.equalIn (d + 1) 5 (.int .u8 (l.getD i 0)) (.int .u8 (m.getD i 0))).run Tryd.prog W = .ok (l.getD i 0 == m.getD i 0) W := by
      simp [Op.equalIn, Sem.run_bind, run_underlying hu]
    have hi := h i (by simp)
    have hb := eqItems_all d l m W is (fun j hj => h j (by simp [hj]))
    simp only [Op.eqItems, Sem.run_bind, part_u8 l W i hi.1, part_u8 m W i hi.2, he, Result.andThen_ok, List.all_cons]
    cases (l.getD i 0 == m.getD i 0) with
    | true => simpa using hb
    | false => simp
theorem all_getD (l m : List Int) (n : Nat) (hl : l.length = n) (hm : m.length = n) : ((List.range n).all fun i => l.getD i 0 == m.getD i 0) = decide (l = m) := by
  by_cases h : l = m
  · rw [decide_eq_true h, h]
    simp
  · rw [decide_eq_false h]
    cases hq : ((List.range n).all fun i => l.getD i 0 == m.getD i 0) with
    | false => rfl
    | true =>
      exfalso
      apply h
      apply List.ext_getElem (by rw [hl, hm])
      intro i h1 h2
      have h3 := List.all_eq_true.1 hq i (List.mem_range.2 (by omega))
      rw [List.getD_eq_getElem?_getD, List.getD_eq_getElem?_getD, List.getElem?_eq_getElem h1, List.getElem?_eq_getElem h2] at h3
      simpa using h3
theorem eq_key (d : Nat) (l m : List Int) (hl : l.length = 32) (hm : m.length = 32) (W : World) : (Op.equalIn (d + 2) 23 (.agg (nums .u8 l).toArray) (.agg (nums .u8 m).toArray)).run Tryd.prog W = .ok (decide (l = m)) W := by
  obtain ⟨i, hi, _, hsz, _⟩ := info_parts info_u8
  have hc : Tryd.prog.cellsOf 5 = 1 := by kernel_rfl
  rw [run_equalIn_array W (d + 1) (t := 23) (e := 5) (n := 32) (nums .u8 l).toArray (nums .u8 m).toArray Tryd.underlying23 hi, hc, eqItems_all d l m W _ (fun j hj => by rw [hl, hm]; exact ⟨List.mem_range.1 hj, List.mem_range.1 hj⟩), all_getD l m 32 hl hm]
theorem eq_int (d : Nat) (n m : Int) (W : World) : (Op.equalIn (d + 1) 3 (.int .i64 n) (.int .i64 m)).run Tryd.prog W = .ok (n == m) W := by
  have hu : Tryd.prog.underlying 3 = some (.int .i64) := by kernel_rfl
  simp [Op.equalIn, Sem.run_bind, run_underlying hu]
theorem part_int {xs : List Value} {o : Nat} {n : Int} (W : World) (h : xs[o]? = some (.int .i64 n)) : (part 3 xs.toArray o).run Tryd.prog W = .ok (.int .i64 n) W := by
  have hu : Tryd.prog.underlying 3 = some (.int .i64) := by kernel_rfl
  have hagg : (isAgg 3).run Tryd.prog W = .ok false W := by
    unfold isAgg
    rw [Sem.run_bind, run_underlying hu W]
    simp
  unfold Go.part
  rw [Sem.run_bind, hagg]
  simp only [Result.andThen_ok, Bool.false_eq_true, if_false]
  have e : xs.toArray[o]? = some (.int .i64 n) := by simpa using h
  rw [e]
  simp
theorem part_agg {t : TypeId} {d : TypeDesc} {xs ys : List Value} {o : Nat} (W : World) (hu : Tryd.prog.underlying t = some d) (hd : (match d with | .struct _ | .array _ _ => true | _ => false) = true) (hs : (Tryd.prog.info? t).map (·.size) = some ys.length) (h : (xs.drop o).take ys.length = ys) : (part t xs.toArray o).run Tryd.prog W = .ok (.agg ys.toArray) W := by
  have hagg : (isAgg t).run Tryd.prog W = .ok true W := by
    unfold isAgg
    rw [Sem.run_bind, run_underlying hu W]
    cases d <;> simp_all
  cases hq : Tryd.prog.info? t with
  | none => simp [hq] at hs
  | some i =>
    have hsz : i.size = ys.length := by simpa [hq] using hs
    have hlen : o + ys.length ≤ xs.length ∨ ys.length = 0 := by
      have := congrArg List.length h
      simp at this
      omega
    unfold Go.part
    rw [Sem.run_bind, hagg]
    simp [sizeOf, typeInfo, hq, hsz]
    simpa using h
theorem eq_ref (d : Nat) {x y : RF} (hx : x.Ok) (hy : y.Ok) (W : World) : (Op.equalIn (d + 3) 69 (.agg x.V.toArray) (.agg y.V.toArray)).run Tryd.prog W = .ok (decide (x.h = y.h) && ((x.f == y.f) && (x.l == y.l))) W :=
  eqA_of Tryd.underlying69 (by kernel_rfl) (eqf_cons rfl
    (part_agg (ys := nums .u8 x.h) W Tryd.underlying23 rfl (size23 (by rw [nums_length, hx.k])) (by rw [List.drop_zero]; exact take_app rfl))
    (part_agg (ys := nums .u8 y.h) W Tryd.underlying23 rfl (size23 (by rw [nums_length, hy.k])) (by rw [List.drop_zero]; exact take_app rfl)) (eq_key d x.h y.h hx.k hy.k W)
    (eqf_cons rfl (part_int W (RF.V32 hx)) (part_int W (RF.V32 hy)) (eq_int (d + 1) x.f y.f W)
      (eqf_last rfl (part_int W (RF.V33 hx)) (part_int W (RF.V33 hy)) (eq_int (d + 1) x.l y.l W))))
theorem ref_eq (x y : RF) : (decide (x.h = y.h) && ((x.f == y.f) && (x.l == y.l))) = true ↔ x = y := by
  obtain ⟨h, f, l⟩ := x
  obtain ⟨h', f', l'⟩ := y
  simp
end Go.Proofs.YtagodmmpkapgnaaDoor.M

namespace Go.Proofs.YtagodmmpkapgnaaDoor.M
open Go.RowKit Go.Maps Go.Proofs.YtagodmmpkapgnaaDoorW.PrintWords Go.Proofs.YtagodmmpkapgnaaDoorW.PrintLast Go.Proofs.YtagodmmpkapgnaaDoorW.PrintMore Go.Proofs.YtagodmmpkapgnaaDoor.Wr Go.Proofs.YtagodmmpkapgnaaDoor.Pl Go.Proofs.YtagodmmpkapgnaaDoor.P Go.Proofs.YtagodmmpkapgnaaDoor.A
set_option linter.unusedVariables false
set_option linter.unusedSimpArgs false
section
variable {P : Program} {ops : Array Oper} {rest : List Oper} {o : Oper} {a : Act} {w : World} {Q : Exit → Act → World → Prop}
theorem gate_neq {t t2 : TypeId} {x y : Operand} (_ho : o.op = .binOp .neq t x y t2) (h : wpList P ops Q (o :: rest) a w) : wpList P ops Q (o :: rest) a w := h
theorem wpList_neqw (hw : Region.wanted o (yielded ops a.tmps) = true) (t t2 : TypeId) (x y : Operand) (ho : o.op = .binOp .neq t x y t2) (cs ds : Array Value) (hx : a.eval x = .agg cs) (hy : a.eval y = .agg ds) (hg : P.eqGuardType P.depth t = false) (b : Bool)
    (he : (Op.equalIn 10000 t (.agg cs) (.agg ds)).run P w = .ok b w) (h : wpList P ops Q rest (a.put o.dst (.bool (!b))) w) : wpList P ops Q (o :: rest) a w :=
  wpList_step fun K hK => by
    rw [if_pos hw]
    unfold Oper.wp execOp
    have hb : (binOp .neq t (.agg cs) (.agg ds)).run P w = .ok (.bool (!b)) w := by rw [run_neq_struct, he]; rfl
    have hgd : (eqGuard .neq t x y (.agg cs) (.agg ds)).run P w = .ok () w := run_eqGuard_agg w .neq t x y cs ds hg
    simp only [ho, hx, hy, Sem.run_bind, hgd, hb, Result.andThen_ok, Sem.run_pure]
    exact hK _ _ h
end
theorem guard23 : Tryd.prog.eqGuardType Tryd.prog.depth 23 = false := by kernel_rfl
theorem guard69 : Tryd.prog.eqGuardType Tryd.prog.depth 69 = false := by kernel_rfl
theorem yields_neq {P : Program} {o : Oper} {a : Act} {w : World} (t t2 : TypeId) (x y : Operand) (ho : o.op = .binOp .neq t x y t2) (cs ds : Array Value) (hx : a.eval x = .agg cs) (hy : a.eval y = .agg ds) (hg : P.eqGuardType P.depth t = false) (b : Bool)
    (he : (Op.equalIn 10000 t (.agg cs) (.agg ds)).run P w = .ok b w) : (execOp a.eval o).run P w = .ok (.value (.bool (!b))) w := by
  unfold execOp
  have hb : (binOp .neq t (.agg cs) (.agg ds)).run P w = .ok (.bool (!b)) w := by rw [run_neq_struct, he]; rfl
  have hgd : (eqGuard .neq t x y (.agg cs) (.agg ds)).run P w = .ok () w := run_eqGuard_agg w .neq t x y cs ds hg
  simp only [ho, hx, hy, Sem.run_bind, hgd, hb, Result.andThen_ok, Sem.run_pure]
end Go.Proofs.YtagodmmpkapgnaaDoor.M

namespace Go.Proofs.YtagodmmpkapgnaaDoor.M
open Go.RowKit Go.Maps Go.Proofs.YtagodmmpkapgnaaDoorW.PrintWords Go.Proofs.YtagodmmpkapgnaaDoorW.PrintLast Go.Proofs.YtagodmmpkapgnaaDoorW.PrintMore Go.Proofs.YtagodmmpkapgnaaDoor.Wr Go.Proofs.YtagodmmpkapgnaaDoor.Pl Go.Proofs.YtagodmmpkapgnaaDoor.P Go.Proofs.YtagodmmpkapgnaaDoor.A
set_option linter.unusedVariables false
set_option linter.unusedSimpArgs false
def sr6_T : Bool × List (List Nat × List Nat) := (true, [([], []), ([0], [0]), ([], []), ([1, 2], [1, 2]), ([3], [3]), ([], []), ([5], [5]), ([], []), ([6, 7], [6, 7]), ([8], [8]), ([4, 9], [4, 9])])
def sr6_B : List Nat := [0, 1, 0, 7, 15, 0, 32, 0, 224, 480, 1023]
theorem sr6_tab : rtab .any (opsOf Tryd.f27 6) = sr6_T := by kernel_rfl
theorem sr6_bits : waitsOk sr6_T.2 sr6_B = true := by kernel_rfl
set_option maxHeartbeats 16000000 in
set_option maxRecDepth 100000 in
theorem sameRecord (s : RC) (hs : s.Ok) (n : Nat) (hn : s.r.length = n) (A1 A2 : Option Addr) (c1 c2 : Nat) (w : World) (hC1 : kRF.C w A1 n s.r) (hC2 : kRF.C w A2 n s.r) :
    Calls Tryd.prog 27 #[.agg (s.V A1 c1).toArray, .agg (s.V A2 c2).toArray] w fun e w' => e = .returned (.bool true) ∧ Below w.heap.size w w' := by
  have HS0 := Aside0.mk ((Sep.refl w).push_alloc (s.V A1 c1).toArray 26)
  have HC := Aside0.mk (And.intro hC1 hC2)
  have HOK := Aside0.mk hs
  have HN := Aside0.mk hn
  have HP := Aside0.mk (fun W g A c (M : List Th) (h : Sep w W (cellsT g (s.V A c).toArray 26 :: M)) => (show (∀ j v, (nums .u8 s.p).toArray.toList[j]? = some v → W.cell? ((⟨g, 1, none⟩ : Addr).add j) = some v) ∧ W.cell? ⟨g, 0, none⟩ = some (.int .i64 s.n) ∧ W.cell? ⟨g, 33, none⟩ = some (.slice A n c) from
    ⟨fun j v hv => seg_at (cs := s.V A c) h.cells.1 1 (nums .u8 s.p) (by rw [nums_length, hs.k]; exact RC.Vp hs A c) j v (by simpa using hv), cell_at (cs := s.V A c) h.cells.1 0 rfl, by have h2 := cell_at (cs := s.V A c) h.cells.1 33 (RC.V33 hs A c); rwa [hn] at h2⟩))
  have HP1 := Aside0.mk (fun W g M h => HP.out W g A1 c1 M h)
  have HP2 := Aside0.mk (fun W g M h => HP.out W g A2 c2 M h)
  have HSP := Aside0.mk (show (Tryd.prog.info? 23).map (·.size) = some (nums .u8 s.p).toArray.size from size23 (by simpa [nums_length] using hs.k))
  have HEK := Aside0.mk (fun W => (show (Op.equalIn 10000 23 (.agg (nums .u8 s.p).toArray) (.agg (nums .u8 s.p).toArray)).run Tryd.prog W = .ok true W from by have h := eq_key 9998 s.p s.p hs.k hs.k W; rwa [decide_eq_true rfl] at h))
  have hn0 : (n : Int) ≤ 9223372036854775807 := by have := hC1.2.1; omega
  clear hC1 hC2 hs hn HP
  generalize (s.V A1 c1).toArray = V1 at HS0 HP1 ⊢
  generalize (s.V A2 c2).toArray = V2 at HP2 ⊢
  generalize (nums .u8 s.p).toArray = K at HP1 HP2 HSP HEK
  generalize s.n = sn at HP1 HP2
  go_enter Tryd.func27, Tryd.ntmps27
  go_upto_region 1 with (fail)
  have HS1 := Aside0.mk (HS0.out.push_alloc V2 26)
  have hsz : (w.alloc (.cells V1 26)).heap.size = w.heap.size + 1 := by show (w.heap.push _).size = _; simp
  rw [hsz] at HS1
  generalize (w.alloc (.cells V1 26)).alloc (.cells V2 26) = w1 at HS1 ⊢
  generalize hg3 : w.heap.size + 1 = g3 at HS1 ⊢
  generalize hg2 : w.heap.size = g2 at HS1 ⊢
  have HG2 := Aside0.mk hg2
  clear hg2 hg3 hsz HS0
  have f1 := HP1.out _ _ _ HS1.out.up1
  have f2 := HP2.out _ _ _ HS1.out
  have a0 := f1.2.1
  have b0 := f2.2.1
  have a33 := f1.2.2
  have b33 := f2.2.2
  go_upto_region 3 with (first
    | ((with_reducible refine gate_load (ty := 23) rfl ?_); refine wpList_ldw ?_ 23 _ rfl ⟨g2, 1, none⟩ ?_ K _ f1.1 Tryd.underlying23 rfl HSP.out ?_; exact rfl; exact rfl; skip)
    | ((with_reducible refine gate_load (ty := 23) rfl ?_); refine wpList_ldw ?_ 23 _ rfl ⟨g3, 1, none⟩ ?_ K _ f2.1 Tryd.underlying23 rfl HSP.out ?_; exact rfl; exact rfl; skip)
    | ((with_reducible refine gate_neq (t := 23) rfl ?_); refine wpList_neqw ?_ 23 23 _ _ rfl K K ?_ ?_ guard23 true (HEK.out _) ?_; exact rfl; exact rfl; exact rfl; skip))
  clear a0 b0 a33 b33 f1 f2 HEK HSP
  go_upto_region 4 with (fail)
  go_loopg [5] n (fun kq v5 wr => ∃ i : Nat, v5 = .int .i64 i ∧ Aside0 (i + kq = n) ∧ Aside0 (Sep w wr (cellsT g3 V2 26 :: cellsT g2 V1 26 :: [])))
  case atStart => exact ⟨0, rfl, ⟨by omega⟩, HS1⟩
  case round =>
    obtain ⟨i, rfl, HJ, HS⟩ := hrel
    clear HS1
    have a33 := (HP1.out _ _ _ HS.out.up1).2.2
    by_cases hi : i < n
    · have t0 : decide ((i : Int) < (n : Int)) = true := decide_eq_true (by omega)
      have hi1 : (i : Int) < (n : Int) := by omega
      have HI := Aside0.mk hi
      obtain ⟨hx, ad1, e1, _⟩ := at_RF (Kd.C_below HC.out.1 HS.out.below) i hi
      obtain ⟨_, ad2, e2, _⟩ := at_RF (Kd.C_below HC.out.2 HS.out.below) i hi
      subst e1
      subst e2
      have HE1 := Aside0.mk (fun W (hw : Below w.heap.size w W) => (show ∀ j v, (s.r.getD i zRF).V.toArray.toList[j]? = some v → W.cell? ((ad1.add (i * 34)).add j) = some v from fun j v hv => by
        obtain ⟨_, ad', e, h⟩ := at_RF (Kd.C_below HC.out.1 hw) i hi
        cases e
        rw [Addr.add_add]
        exact h j v (by simpa using hv)))
      have HE2 := Aside0.mk (fun W (hw : Below w.heap.size w W) => (show ∀ j v, (s.r.getD i zRF).V.toArray.toList[j]? = some v → W.cell? ((ad2.add (i * 34)).add j) = some v from fun j v hv => by
        obtain ⟨_, ad', e, h⟩ := at_RF (Kd.C_below HC.out.2 hw) i hi
        cases e
        rw [Addr.add_add]
        exact h j v (by simpa using hv)))
      generalize s.r.getD i zRF = x at hx HE1 HE2
      have HSX := Aside0.mk (show (Tryd.prog.info? 69).map (·.size) = some x.V.toArray.size from size69 (by simpa using RF.V_len hx))
      have HEQ := Aside0.mk (fun W => (show (Op.equalIn 10000 69 (.agg x.V.toArray) (.agg x.V.toArray)).run Tryd.prog W = .ok true W from by have h := eq_ref 9997 hx hx W; rwa [(ref_eq x x).2 rfl] at h))
      have HHS := Aside0.mk (fun W (h : Sep w W (cellsT g3 V2 26 :: cellsT g2 V1 26 :: [])) => (show (W.cell? ⟨g2, 33, none⟩ = some (.slice (some ad1) n c1) ∧ W.cell? ⟨g3, 33, none⟩ = some (.slice (some ad2) n c2)) ∧ (∀ j v, x.V.toArray.toList[j]? = some v → W.cell? ((ad1.add (i * 34)).add j) = some v) ∧ (∀ j v, x.V.toArray.toList[j]? = some v → W.cell? ((ad2.add (i * 34)).add j) = some v) from ⟨⟨(HP1.out _ _ _ h.up1).2.2, (HP2.out _ _ _ h).2.2⟩, HE1.out _ h.below, HE2.out _ h.below⟩))
      clear hx
      go_upto_region 6 with (fail)
      have HSz := Aside0.mk (HS.out.step (below_drew1 (Below.refl wr.heap.size wr)))
      clear a33 HS
      refine start_ (n := 11) (S := fun W => (W.cell? ⟨g2, 33, none⟩ = some (.slice (some ad1) n c1) ∧ W.cell? ⟨g3, 33, none⟩ = some (.slice (some ad2) n c2)) ∧ (∀ j v, x.V.toArray.toList[j]? = some v → W.cell? ((ad1.add (i * 34)).add j) = some v) ∧ (∀ j v, x.V.toArray.toList[j]? = some v → W.cell? ((ad2.add (i * 34)).add j) = some v)) (ds := []) (bb 11 0) (by kernel_rfl) rfl rfl (HHS.out _ HSz.out) (fun hHeld => ?_); refine with_tabW sr6_tab sr6_bits (fun HT_ HW_ => ?_)
      generalize wr.drew = wd at hHeld HSz ⊢
      refine pure_ (i := 0) (N := (some 34)) (v := ?_) (a' := ?_) (bb 11 1) rfl rfl (any_of HT_.out (by kernel_rfl)) (fun _ _ _ h => h) (Or.inl ⟨by rfl, ?_⟩) ?_ ?_
      rotate_left
      · intro w'
        go_simp
        with_reducible rfl
      rotate_left
      · simp only [Act.put, List.setIfInBounds_toArray, List.set_cons_zero, List.set_cons_succ, i64_w, i32_w]
        rfl
      refine take_ (i := 1) (N := (some 35)) (v := ?_) (a' := ?_) (bb 11 3) rfl rfl (take_ofW HT_.out HW_.out (by kernel_rfl)) (fun _ _ _ h => h) (Or.inl ⟨by rfl, ?_⟩) hHeld ?_ ?_
      rotate_left
      · intro w' s0
        (try dsimp only at s0)
        go_simp
        with_reducible rfl
      rotate_left
      · simp only [Act.put, List.setIfInBounds_toArray, List.set_cons_zero, List.set_cons_succ, i64_w, i32_w]
        rfl
      refine pure_ (i := 2) (N := (some 36)) (v := ?_) (a' := ?_) (bb 11 7) rfl rfl (any_of HT_.out (by kernel_rfl)) (fun _ _ _ h => h) (Or.inl ⟨by rfl, ?_⟩) ?_ ?_
      rotate_left
      · intro w'
        go_simp
        with_reducible rfl
      rotate_left
      · simp only [Act.put, List.setIfInBounds_toArray, List.set_cons_zero, List.set_cons_succ, i64_w, i32_w]
        rfl
      refine pure_ (i := 3) (N := (some 37)) (v := ?_) (a' := ?_) (bb 11 15) rfl rfl (any_of HT_.out (by kernel_rfl)) (fun _ _ _ h => h) (Or.inl ⟨by rfl, ?_⟩) ?_ ?_
      rotate_left
      · intro w'
        go_simp
        with_reducible rfl
      rotate_left
      · simp only [Act.put, List.setIfInBounds_toArray, List.set_cons_zero, List.set_cons_succ, i64_w, i32_w]
        rfl
      refine take_ (i := 4) (N := (some 38)) (v := .agg x.V.toArray) (a' := ?_) (bb 11 31) rfl rfl (take_ofW HT_.out HW_.out (by kernel_rfl)) (fun _ _ _ h => h) (Or.inl ⟨by rfl, fun w' s0 => yields_ld 69 _ rfl (ad1.add (i * 34)) rfl x.V.toArray _ s0.2.1 Tryd.underlying69 rfl HSX.out⟩) hHeld ?_ ?_
      rotate_left
      · simp only [Act.put, List.setIfInBounds_toArray, List.set_cons_zero, List.set_cons_succ, i64_w, i32_w]
        rfl
      refine pure_ (i := 5) (N := (some 39)) (v := ?_) (a' := ?_) (bb 11 63) rfl rfl (any_of HT_.out (by kernel_rfl)) (fun _ _ _ h => h) (Or.inl ⟨by rfl, ?_⟩) ?_ ?_
      rotate_left
      · intro w'
        go_simp
        with_reducible rfl
      rotate_left
      · simp only [Act.put, List.setIfInBounds_toArray, List.set_cons_zero, List.set_cons_succ, i64_w, i32_w]
        rfl
      refine take_ (i := 6) (N := (some 40)) (v := ?_) (a' := ?_) (bb 11 127) rfl rfl (take_ofW HT_.out HW_.out (by kernel_rfl)) (fun _ _ _ h => h) (Or.inl ⟨by rfl, ?_⟩) hHeld ?_ ?_
      rotate_left
      · intro w' s0
        (try dsimp only at s0)
        go_simp
        with_reducible rfl
      rotate_left
      · simp only [Act.put, List.setIfInBounds_toArray, List.set_cons_zero, List.set_cons_succ, i64_w, i32_w]
        rfl
      refine pure_ (i := 7) (N := (some 41)) (v := ?_) (a' := ?_) (bb 11 255) rfl rfl (any_of HT_.out (by kernel_rfl)) (fun _ _ _ h => h) (Or.inl ⟨by rfl, ?_⟩) ?_ ?_
      rotate_left
      · intro w'
        go_simp
        with_reducible rfl
      rotate_left
      · simp only [Act.put, List.setIfInBounds_toArray, List.set_cons_zero, List.set_cons_succ, i64_w, i32_w]
        rfl
      refine pure_ (i := 8) (N := (some 42)) (v := ?_) (a' := ?_) (bb 11 511) rfl rfl (any_of HT_.out (by kernel_rfl)) (fun _ _ _ h => h) (Or.inl ⟨by rfl, ?_⟩) ?_ ?_
      rotate_left
      · intro w'
        go_simp
        with_reducible rfl
      rotate_left
      · simp only [Act.put, List.setIfInBounds_toArray, List.set_cons_zero, List.set_cons_succ, i64_w, i32_w]
        rfl
      refine take_ (i := 9) (N := (some 43)) (v := .agg x.V.toArray) (a' := ?_) (bb 11 1023) rfl rfl (take_ofW HT_.out HW_.out (by kernel_rfl)) (fun _ _ _ h => h) (Or.inl ⟨by rfl, fun w' s0 => yields_ld 69 _ rfl (ad2.add (i * 34)) rfl x.V.toArray _ s0.2.2 Tryd.underlying69 rfl HSX.out⟩) hHeld ?_ ?_
      rotate_left
      · simp only [Act.put, List.setIfInBounds_toArray, List.set_cons_zero, List.set_cons_succ, i64_w, i32_w]
        rfl
      refine pure_ (i := 10) (N := (some 44)) (v := .bool (!true)) (a' := ?_) (bb 11 2047) rfl rfl (any_of HT_.out (by kernel_rfl)) (fun _ _ _ h => h) (Or.inl ⟨by rfl, fun w' => yields_neq 69 69 _ _ rfl x.V.toArray x.V.toArray rfl rfl guard69 true (HEQ.out w')⟩) ?_ ?_
      rotate_left
      · simp only [Act.put, List.setIfInBounds_toArray, List.set_cons_zero, List.set_cons_succ, i64_w, i32_w]
        rfl
      refine done_ (done_of HT_.out (by kernel_rfl)) ?_
      clear hHeld HT_ HW_
      go_wp2
      go_roundg (n - (i + 1))
      case measure => have := HJ.out; have := HI.out; omega
      case rel => exact ⟨i + 1, rfl, ⟨by have := HJ.out; have := HI.out; omega⟩, HSz⟩
    · have hi3 : i = n := by have := HJ.out; omega
      have t0 : decide ((i : Int) < (n : Int)) = false := decide_eq_false (by omega)
      clear hi3
      go_wp2
      go_ret
      exact ⟨rfl, HS.out.below⟩
end Go.Proofs.YtagodmmpkapgnaaDoor.M

namespace Go.Proofs.YtagodmmpkapgnaaDoor.M
open Go.RowKit Go.Maps Go.Proofs.YtagodmmpkapgnaaDoorW.PrintWords Go.Proofs.YtagodmmpkapgnaaDoorW.PrintLast Go.Proofs.YtagodmmpkapgnaaDoorW.PrintMore Go.Proofs.YtagodmmpkapgnaaDoor.Wr Go.Proofs.YtagodmmpkapgnaaDoor.Pl Go.Proofs.YtagodmmpkapgnaaDoor.P Go.Proofs.YtagodmmpkapgnaaDoor.A
set_option linter.unusedVariables false
set_option linter.unusedSimpArgs false
def kKY : Kd (List Int) where
  sz := 32
  E := []
  K := fun _ x cs => (x.length = 32 ∧ bytes_ x) ∧ cs = nums .u8 x
  M := fun _ _ _ x cs => (x.length = 32 ∧ bytes_ x) ∧ cs = nums .u8 x
  K_len := by rintro w x cs ⟨h, rfl⟩; rw [nums_length, h.1]
  K_one := by
    rintro w x cs ⟨h, rfl⟩ u hu
    exact nums_ones x u hu
  K_below := fun _ h => h
  K_of_M := fun h => h
  M_mono := fun _ h => h
  M_bound := fun h => h
  M_move := fun _ h => h
  M_lower := fun _ h => h
def kRC : Kd RC := Kd.iso (Kd.pair (Kd.int .i64) (Kd.pair kKY (Kd.slice 69 kRF))) (fun x : RC => (x.n, x.p, x.r))
theorem refs_ok {w : World} {A : Option Addr} {n : Nat} {l : List RF} (h : kRF.C w A n l) : ∀ x ∈ l, x.Ok := by
  intro x hx
  obtain ⟨i, hi, rfl⟩ := List.getElem_of_mem hx
  have h2 := (at_RF h i (by rw [← h.1]; exact hi)).1
  rwa [List.getD_eq_getElem?_getD, List.getElem?_eq_getElem hi] at h2
theorem kRC_open {w : World} {s : RC} {cs : List Value} (h : kRC.K w s cs) : s.Ok ∧ ∃ A c, cs = s.V A c ∧ s.r.length ≤ c ∧ kRF.C w A s.r.length s.r := by
  obtain ⟨_, _, rfl, rfl, ⟨_, _, rfl, ⟨h1, rfl⟩, ⟨A, c, rfl, l3, g3⟩⟩⟩ := h
  exact ⟨⟨h1.1, h1.2, refs_ok g3⟩, A, c, rfl, l3, g3⟩
theorem at_RC {w : World} {A : Option Addr} {n : Nat} {xs : List RC} (h : Kd.C kRC w A n xs) (i : Nat) (h1 : i < n) : (xs.getD i noRC).Ok ∧ ∃ ad Ar cr, A = some ad ∧ (∀ j v, ((xs.getD i noRC).V Ar cr)[j]? = some v → w.cell? (ad.add (i * 34 + j)) = some v) ∧ (xs.getD i noRC).r.length ≤ cr ∧ kRF.C w Ar (xs.getD i noRC).r.length (xs.getD i noRC).r := by
  obtain ⟨ad, c, e, _, hK, hc0⟩ := Kd.C_get h noRC (i : Int) (by omega) (by omega)
  rw [Int.toNat_natCast] at hK hc0
  obtain ⟨hs, Ar, cr, rfl, l3, g3⟩ := kRC_open hK
  exact ⟨hs, ad, Ar, cr, e, hc0, l3, g3⟩
end Go.Proofs.YtagodmmpkapgnaaDoor.M

namespace Go.Proofs.YtagodmmpkapgnaaDoor.M
open Go.RowKit Go.Maps Go.Proofs.YtagodmmpkapgnaaDoorW.PrintWords Go.Proofs.YtagodmmpkapgnaaDoorW.PrintLast Go.Proofs.YtagodmmpkapgnaaDoorW.PrintMore Go.Proofs.YtagodmmpkapgnaaDoor.Wr Go.Proofs.YtagodmmpkapgnaaDoor.Pl Go.Proofs.YtagodmmpkapgnaaDoor.P Go.Proofs.YtagodmmpkapgnaaDoor.A
set_option linter.unusedVariables false
set_option linter.unusedSimpArgs false
def sa6_T : Bool × List (List Nat × List Nat) := (true, [([], []), ([], []), ([0, 1], [0, 1]), ([2], [2]), ([], []), ([], []), ([4, 5], [4, 5]), ([6], [6]), ([3, 7], [3, 7]), ([8], [8])])
def sa6_B : List Nat := [0, 0, 3, 7, 0, 0, 48, 112, 255, 511]
theorem sa6_tab : rtab .any (opsOf Tryd.f39 6) = sa6_T := by kernel_rfl
theorem sa6_bits : waitsOk sa6_T.2 sa6_B = true := by kernel_rfl
set_option maxHeartbeats 16000000 in
set_option maxRecDepth 100000 in
theorem sameAll (l : List RC) (n : Nat) (hn : l.length = n) (A1 A2 : Option Addr) (c1 c2 : Nat) (w : World) (hC1 : kRC.C w A1 n l) (hC2 : kRC.C w A2 n l) :
    Calls Tryd.prog 39 #[.slice A1 n c1, .slice A2 n c2] w fun e w' => e = .returned (.bool true) ∧ Below w.heap.size w w' := by
  have HC := Aside0.mk (And.intro hC1 hC2)
  have hn0 : (n : Int) ≤ 9223372036854775807 := by have := hC1.2.1; omega
  have HB0 := Aside0.mk (Below.refl w.heap.size w)
  clear hC1 hC2 hn
  go_enter Tryd.func39, Tryd.ntmps39
  go_upto_region 3 with (fail)
  go_upto_region 4 with (fail)
  go_loopg [5] n (fun kq v5 wr => ∃ i : Nat, v5 = .int .i64 i ∧ Aside0 (i + kq = n) ∧ Aside0 (Below w.heap.size w wr))
  case atStart => exact ⟨0, rfl, ⟨by omega⟩, HB0⟩
  case round =>
    obtain ⟨i, rfl, HJ, HB⟩ := hrel
    clear HB0
    by_cases hi : i < n
    · have t0 : decide ((i : Int) < (n : Int)) = true := decide_eq_true (by omega)
      have hi1 : (i : Int) < (n : Int) := by omega
      have HI := Aside0.mk hi
      obtain ⟨hx, ad1, Ar1, cr1, e1, h1, _, g1⟩ := at_RC HC.out.1 i hi
      obtain ⟨_, ad2, Ar2, cr2, e2, h2, _, g2⟩ := at_RC HC.out.2 i hi
      subst e1
      subst e2
      generalize l.getD i noRC = s at hx h1 h2 g1 g2
      have HSR := Aside0.mk (fun W (hw : Below w.heap.size w W) => sameRecord s hx s.r.length rfl Ar1 Ar2 cr1 cr2 W (Kd.C_below g1 hw) (Kd.C_below g2 hw))
      have HS1 := Aside0.mk (RC.size hx Ar1 cr1)
      have HS2 := Aside0.mk (RC.size hx Ar2 cr2)
      have HHS := Aside0.mk (fun W (hw : Below w.heap.size w W) => (show (∀ j v, (s.V Ar1 cr1).toArray.toList[j]? = some v → W.cell? ((ad1.add (i * 34)).add j) = some v) ∧ (∀ j v, (s.V Ar2 cr2).toArray.toList[j]? = some v → W.cell? ((ad2.add (i * 34)).add j) = some v) from
        ⟨fun j v hv => by rw [Addr.add_add]; exact pw_cell_below hw (h1 j v (by simpa using hv)), fun j v hv => by rw [Addr.add_add]; exact pw_cell_below hw (h2 j v (by simpa using hv))⟩))
      generalize (s.V Ar1 cr1).toArray = V1 at HSR HS1 HHS
      generalize (s.V Ar2 cr2).toArray = V2 at HSR HS2 HHS
      clear hx h1 h2 g1 g2
      go_upto_region 6 with (fail)
      have HBz := Aside0.mk (below_step HB.out (below_drew1 (Below.refl wr.heap.size wr)))
      clear HB
      refine start_ (n := 10) (S := fun W => (∀ j v, V1.toList[j]? = some v → W.cell? ((ad1.add (i * 34)).add j) = some v) ∧ (∀ j v, V2.toList[j]? = some v → W.cell? ((ad2.add (i * 34)).add j) = some v)) (ds := []) (bb 10 0) (by kernel_rfl) rfl rfl (HHS.out _ HBz.out) (fun hHeld => ?_); refine with_tabW sa6_tab sa6_bits (fun HT_ HW_ => ?_)
      generalize wr.drew = wd at hHeld HBz ⊢
      refine pure_ (i := 0) (N := (some 17)) (v := ?_) (a' := ?_) (bb 10 1) rfl rfl (any_of HT_.out (by kernel_rfl)) (fun _ _ _ h => h) (Or.inl ⟨by rfl, ?_⟩) ?_ ?_
      rotate_left
      · intro w'
        go_simp
        with_reducible rfl
      rotate_left
      · simp only [Act.put, List.setIfInBounds_toArray, List.set_cons_zero, List.set_cons_succ, i64_w, i32_w]
        rfl
      refine pure_ (i := 1) (N := (some 18)) (v := ?_) (a' := ?_) (bb 10 3) rfl rfl (any_of HT_.out (by kernel_rfl)) (fun _ _ _ h => h) (Or.inl ⟨by rfl, ?_⟩) ?_ ?_
      rotate_left
      · intro w'
        go_simp
        with_reducible rfl
      rotate_left
      · simp only [Act.put, List.setIfInBounds_toArray, List.set_cons_zero, List.set_cons_succ, i64_w, i32_w]
        rfl
      refine pure_ (i := 2) (N := (some 19)) (v := ?_) (a' := ?_) (bb 10 7) rfl rfl (any_of HT_.out (by kernel_rfl)) (fun _ _ _ h => h) (Or.inl ⟨by rfl, ?_⟩) ?_ ?_
      rotate_left
      · intro w'
        go_simp
        with_reducible rfl
      rotate_left
      · simp only [Act.put, List.setIfInBounds_toArray, List.set_cons_zero, List.set_cons_succ, i64_w, i32_w]
        rfl
      refine take_ (i := 3) (N := (some 20)) (v := .agg V1) (a' := ?_) (bb 10 15) rfl rfl (take_ofW HT_.out HW_.out (by kernel_rfl)) (fun _ _ _ h => h) (Or.inl ⟨by rfl, fun w' s0 => yields_ld 26 _ rfl (ad1.add (i * 34)) rfl V1 _ s0.1 Tryd.underlying26 rfl HS1.out⟩) hHeld ?_ ?_
      rotate_left
      · simp only [Act.put, List.setIfInBounds_toArray, List.set_cons_zero, List.set_cons_succ, i64_w, i32_w]
        rfl
      refine pure_ (i := 4) (N := (some 21)) (v := ?_) (a' := ?_) (bb 10 31) rfl rfl (any_of HT_.out (by kernel_rfl)) (fun _ _ _ h => h) (Or.inl ⟨by rfl, ?_⟩) ?_ ?_
      rotate_left
      · intro w'
        go_simp
        with_reducible rfl
      rotate_left
      · simp only [Act.put, List.setIfInBounds_toArray, List.set_cons_zero, List.set_cons_succ, i64_w, i32_w]
        rfl
      refine pure_ (i := 5) (N := (some 22)) (v := ?_) (a' := ?_) (bb 10 63) rfl rfl (any_of HT_.out (by kernel_rfl)) (fun _ _ _ h => h) (Or.inl ⟨by rfl, ?_⟩) ?_ ?_
      rotate_left
      · intro w'
        go_simp
        with_reducible rfl
      rotate_left
      · simp only [Act.put, List.setIfInBounds_toArray, List.set_cons_zero, List.set_cons_succ, i64_w, i32_w]
        rfl
      refine pure_ (i := 6) (N := (some 23)) (v := ?_) (a' := ?_) (bb 10 127) rfl rfl (any_of HT_.out (by kernel_rfl)) (fun _ _ _ h => h) (Or.inl ⟨by rfl, ?_⟩) ?_ ?_
      rotate_left
      · intro w'
        go_simp
        with_reducible rfl
      rotate_left
      · simp only [Act.put, List.setIfInBounds_toArray, List.set_cons_zero, List.set_cons_succ, i64_w, i32_w]
        rfl
      refine take_ (i := 7) (N := (some 24)) (v := .agg V2) (a' := ?_) (bb 10 255) rfl rfl (take_ofW HT_.out HW_.out (by kernel_rfl)) (fun _ _ _ h => h) (Or.inl ⟨by rfl, fun w' s0 => yields_ld 26 _ rfl (ad2.add (i * 34)) rfl V2 _ s0.2 Tryd.underlying26 rfl HS2.out⟩) hHeld ?_ ?_
      rotate_left
      · simp only [Act.put, List.setIfInBounds_toArray, List.set_cons_zero, List.set_cons_succ, i64_w, i32_w]
        rfl
      refine one_ (i := 8) (N := (some 25)) (bb 10 511) rfl rfl (one_of HT_.out (by kernel_rfl)) (by decide) (fun K hK => ?_)
      refine goes_ Tryd.func27 (by kernel_rfl) rfl #[.agg V1, .agg V2] (by rfl) rfl rfl (by (try simp only [List.map_toArray, List.map_cons, List.map_nil]); first | done | rfl) ?_
      with_reducible refine (HSR.out _ HBz.out).mono ?_
      rintro e w6 ⟨rfl, hb⟩
      have HB6 := Aside0.mk (below_step HBz.out hb)
      clear hb
      refine ⟨_, rfl, ?_⟩
      refine hK.out _ _ (HHS.out _ HB6.out) (fun hHeld => ?_)
      clear hK K
      refine norm_ (a' := ?_) ?_ ?_
      rotate_left
      · show Act.put _ (some 25) _ = _
        simp only [Act.put, List.setIfInBounds_toArray, List.set_cons_zero, List.set_cons_succ, i64_w, i32_w]
        rfl
      refine pure_ (i := 9) (N := (some 26)) (v := ?_) (a' := ?_) (bb 10 1023) rfl rfl (any_of HT_.out (by kernel_rfl)) (fun _ _ _ h => h) (Or.inl ⟨by rfl, ?_⟩) ?_ ?_
      rotate_left
      · intro w'
        go_simp
        with_reducible rfl
      rotate_left
      · simp only [Act.put, List.setIfInBounds_toArray, List.set_cons_zero, List.set_cons_succ, i64_w, i32_w]
        rfl
      refine done_ (done_of HT_.out (by kernel_rfl)) ?_
      clear hHeld HT_ HW_
      go_wp2
      go_roundg (n - (i + 1))
      case measure => have := HJ.out; have := HI.out; omega
      case rel => exact ⟨i + 1, rfl, ⟨by have := HJ.out; have := HI.out; omega⟩, HB6⟩
    · have t0 : decide ((i : Int) < (n : Int)) = false := decide_eq_false (by omega)
      go_wp2
      go_ret
      exact ⟨rfl, HB.out⟩
end Go.Proofs.YtagodmmpkapgnaaDoor.M

namespace Go.Proofs.YtagodmmpkapgnaaDoor.M
open Go.RowKit Go.Maps Go.Proofs.YtagodmmpkapgnaaDoorW.PrintWords Go.Proofs.YtagodmmpkapgnaaDoorW.PrintLast Go.Proofs.YtagodmmpkapgnaaDoorW.PrintMore Go.Proofs.YtagodmmpkapgnaaDoor.Wr Go.Proofs.YtagodmmpkapgnaaDoor.Pl Go.Proofs.YtagodmmpkapgnaaDoor.P Go.Proofs.YtagodmmpkapgnaaDoor.A
set_option linter.unusedVariables false
set_option linter.unusedSimpArgs false
def jC (gd : Nat) (fr n st nx : Int) : Array Value := #[.pointer (some ⟨gd, 0, none⟩), .int .i64 fr, .int .i64 n, .int .i64 st, .int .i64 nx]
def fu1_T : Bool × List (List Nat × List Nat) := (true, [([], []), ([0], [0]), ([1], [1]), ([2], [2]), ([], []), ([4], [4]), ([5], [5]), ([6], [6]), ([3, 7], [3, 7]), ([], []), ([9], [9]), ([10], [10]), ([11], [11]), ([8, 12], [8, 12]), ([13, 0, 1, 2, 3, 4, 5, 6, 7, 8, 9, 10, 11, 12, 13], [13])])
def fu1_B : List Nat := [0, 1, 3, 7, 0, 16, 48, 112, 255, 0, 512, 1536, 3584, 8191, 16383]
theorem fu1_tab : rtab .any (opsOf Tryd.f46 1) = fu1_T := by kernel_rfl
theorem fu1_bits : waitsOk fu1_T.2 fu1_B = true := by kernel_rfl
set_option maxHeartbeats 8000000 in
set_option maxRecDepth 100000 in
theorem full_calls {gj gd : Nat} {fr n st nx : Int} {w : World} (h : w.heap[gj]? = some (.cells (jC gd fr n st nx) 134 (0, 0))) (h0 : 0 ≤ st) (h1 : st ≤ 1099511627777) (h2 : 0 ≤ nx) (h3 : nx ≤ 1099511627777) :
    Calls Tryd.prog 46 #[.pointer (some ⟨gj, 0, none⟩)] w fun e w' => e = .returned (.bool (decide (n ≤ nx - st))) ∧ Below w.heap.size w w' := by
  have HHS := Aside0.mk (show w.cell? ⟨gj, 4, none⟩ = some (.int .i64 nx) ∧ w.cell? ⟨gj, 3, none⟩ = some (.int .i64 st) ∧ w.cell? ⟨gj, 2, none⟩ = some (.int .i64 n) from ⟨blk_cell h 4, blk_cell h 3, blk_cell h 2⟩)
  have HBz := Aside0.mk (below_drew1 (Below.refl w.heap.size w))
  have hw1 : IntKind.i64.wrap (nx - st) = nx - st := by unfold IntKind.wrap; simp [IntKind.signed, IntKind.bits]; omega
  clear h
  go_enter Tryd.func46, Tryd.ntmps46
  go_upto_region 1 with (fail)
  refine start_ (n := 15) (S := fun W => W.cell? ⟨gj, 4, none⟩ = some (.int .i64 nx) ∧ W.cell? ⟨gj, 3, none⟩ = some (.int .i64 st) ∧ W.cell? ⟨gj, 2, none⟩ = some (.int .i64 n)) (ds := []) (bb 15 0) (by kernel_rfl) rfl rfl (HHS.out) (fun hHeld => ?_); refine with_tabW fu1_tab fu1_bits (fun HT_ HW_ => ?_)
  generalize w.drew = wd at hHeld HBz ⊢
  refine pure_ (i := 0) (N := (some 3)) (v := ?_) (a' := ?_) (bb 15 1) rfl rfl (any_of HT_.out (by kernel_rfl)) (fun _ _ _ h => h) (Or.inl ⟨by rfl, ?_⟩) ?_ ?_
  rotate_left
  · intro w'
    go_simp
    with_reducible rfl
  rotate_left
  · simp only [Act.put, List.setIfInBounds_toArray, List.set_cons_zero, List.set_cons_succ, i64_w, i32_w]
    rfl
  refine pure_ (i := 1) (N := (some 4)) (v := ?_) (a' := ?_) (bb 15 3) rfl rfl (any_of HT_.out (by kernel_rfl)) (fun _ _ _ h => h) (Or.inl ⟨by rfl, ?_⟩) ?_ ?_
  rotate_left
  · intro w'
    go_simp
    with_reducible rfl
  rotate_left
  · simp only [Act.put, List.setIfInBounds_toArray, List.set_cons_zero, List.set_cons_succ, i64_w, i32_w]
    rfl
  refine pure_ (i := 2) (N := (some 5)) (v := ?_) (a' := ?_) (bb 15 7) rfl rfl (any_of HT_.out (by kernel_rfl)) (fun _ _ _ h => h) (Or.inl ⟨by rfl, ?_⟩) ?_ ?_
  rotate_left
  · intro w'
    go_simp
    with_reducible rfl
  rotate_left
  · simp only [Act.put, List.setIfInBounds_toArray, List.set_cons_zero, List.set_cons_succ, i64_w, i32_w]
    rfl
  refine take_ (i := 3) (N := (some 6)) (v := ?_) (a' := ?_) (bb 15 15) rfl rfl (take_ofW HT_.out HW_.out (by kernel_rfl)) (fun _ _ _ h => h) (Or.inl ⟨by rfl, ?_⟩) hHeld ?_ ?_
  rotate_left
  · intro w' s0
    (try dsimp only at s0)
    go_simp
    with_reducible rfl
  rotate_left
  · simp only [Act.put, List.setIfInBounds_toArray, List.set_cons_zero, List.set_cons_succ, i64_w, i32_w]
    rfl
  refine pure_ (i := 4) (N := (some 7)) (v := ?_) (a' := ?_) (bb 15 31) rfl rfl (any_of HT_.out (by kernel_rfl)) (fun _ _ _ h => h) (Or.inl ⟨by rfl, ?_⟩) ?_ ?_
  rotate_left
  · intro w'
    go_simp
    with_reducible rfl
  rotate_left
  · simp only [Act.put, List.setIfInBounds_toArray, List.set_cons_zero, List.set_cons_succ, i64_w, i32_w]
    rfl
  refine pure_ (i := 5) (N := (some 8)) (v := ?_) (a' := ?_) (bb 15 63) rfl rfl (any_of HT_.out (by kernel_rfl)) (fun _ _ _ h => h) (Or.inl ⟨by rfl, ?_⟩) ?_ ?_
  rotate_left
  · intro w'
    go_simp
    with_reducible rfl
  rotate_left
  · simp only [Act.put, List.setIfInBounds_toArray, List.set_cons_zero, List.set_cons_succ, i64_w, i32_w]
    rfl
  refine pure_ (i := 6) (N := (some 9)) (v := ?_) (a' := ?_) (bb 15 127) rfl rfl (any_of HT_.out (by kernel_rfl)) (fun _ _ _ h => h) (Or.inl ⟨by rfl, ?_⟩) ?_ ?_
  rotate_left
  · intro w'
    go_simp
    with_reducible rfl
  rotate_left
  · simp only [Act.put, List.setIfInBounds_toArray, List.set_cons_zero, List.set_cons_succ, i64_w, i32_w]
    rfl
  refine take_ (i := 7) (N := (some 10)) (v := ?_) (a' := ?_) (bb 15 255) rfl rfl (take_ofW HT_.out HW_.out (by kernel_rfl)) (fun _ _ _ h => h) (Or.inl ⟨by rfl, ?_⟩) hHeld ?_ ?_
  rotate_left
  · intro w' s0
    (try dsimp only at s0)
    go_simp
    with_reducible rfl
  rotate_left
  · simp only [Act.put, List.setIfInBounds_toArray, List.set_cons_zero, List.set_cons_succ, i64_w, i32_w]
    rfl
  refine pure_ (i := 8) (N := (some 11)) (v := ?_) (a' := ?_) (bb 15 511) rfl rfl (any_of HT_.out (by kernel_rfl)) (fun _ _ _ h => h) (Or.inl ⟨by rfl, ?_⟩) ?_ ?_
  rotate_left
  · intro w'
    go_simp
    with_reducible rfl
  rotate_left
  · simp only [Act.put, List.setIfInBounds_toArray, List.set_cons_zero, List.set_cons_succ, i64_w, i32_w]
    rfl
  refine pure_ (i := 9) (N := (some 12)) (v := ?_) (a' := ?_) (bb 15 1023) rfl rfl (any_of HT_.out (by kernel_rfl)) (fun _ _ _ h => h) (Or.inl ⟨by rfl, ?_⟩) ?_ ?_
  rotate_left
  · intro w'
    go_simp
    with_reducible rfl
  rotate_left
  · simp only [Act.put, List.setIfInBounds_toArray, List.set_cons_zero, List.set_cons_succ, i64_w, i32_w]
    rfl
  refine pure_ (i := 10) (N := (some 13)) (v := ?_) (a' := ?_) (bb 15 2047) rfl rfl (any_of HT_.out (by kernel_rfl)) (fun _ _ _ h => h) (Or.inl ⟨by rfl, ?_⟩) ?_ ?_
  rotate_left
  · intro w'
    go_simp
    with_reducible rfl
  rotate_left
  · simp only [Act.put, List.setIfInBounds_toArray, List.set_cons_zero, List.set_cons_succ, i64_w, i32_w]
    rfl
  refine pure_ (i := 11) (N := (some 14)) (v := ?_) (a' := ?_) (bb 15 4095) rfl rfl (any_of HT_.out (by kernel_rfl)) (fun _ _ _ h => h) (Or.inl ⟨by rfl, ?_⟩) ?_ ?_
  rotate_left
  · intro w'
    go_simp
    with_reducible rfl
  rotate_left
  · simp only [Act.put, List.setIfInBounds_toArray, List.set_cons_zero, List.set_cons_succ, i64_w, i32_w]
    rfl
  refine take_ (i := 12) (N := (some 15)) (v := ?_) (a' := ?_) (bb 15 8191) rfl rfl (take_ofW HT_.out HW_.out (by kernel_rfl)) (fun _ _ _ h => h) (Or.inl ⟨by rfl, ?_⟩) hHeld ?_ ?_
  rotate_left
  · intro w' s0
    (try dsimp only at s0)
    go_simp
    with_reducible rfl
  rotate_left
  · simp only [Act.put, List.setIfInBounds_toArray, List.set_cons_zero, List.set_cons_succ, i64_w, i32_w]
    rfl
  refine pure_ (i := 13) (N := (some 16)) (v := ?_) (a' := ?_) (bb 15 16383) rfl rfl (any_of HT_.out (by kernel_rfl)) (fun _ _ _ h => h) (Or.inl ⟨by rfl, ?_⟩) ?_ ?_
  rotate_left
  · intro w'
    go_simp
    with_reducible rfl
  rotate_left
  · simp only [Act.put, List.setIfInBounds_toArray, List.set_cons_zero, List.set_cons_succ, i64_w, i32_w]
    rfl
  refine pure_ (i := 14) (N := (some 2)) (v := ?_) (a' := ?_) (bb 15 32767) rfl rfl (any_of HT_.out (by kernel_rfl)) (fun _ _ _ h => h) (Or.inl ⟨by rfl, ?_⟩) ?_ ?_
  rotate_left
  · intro w'
    go_simp
    with_reducible rfl
  rotate_left
  · simp only [Act.put, List.setIfInBounds_toArray, List.set_cons_zero, List.set_cons_succ, i64_w, i32_w]
    rfl
  refine done_ (done_of HT_.out (by kernel_rfl)) ?_
  clear hHeld HT_ HW_
  go_wp2
  go_ret
  exact ⟨by simp, HBz.out⟩
def roomE (n st nx : Int) : Int := if 1099511627776 < nx then 171 else if n ≤ nx - st then 170 else 0
set_option maxHeartbeats 8000000 in
set_option maxRecDepth 100000 in
theorem room_calls {gj gd : Nat} {fr n st nx : Int} {w : World} (h : w.heap[gj]? = some (.cells (jC gd fr n st nx) 134 (0, 0))) (h0 : 0 ≤ st) (h1 : st ≤ 1099511627777) (h2 : 0 ≤ nx) (h3 : nx ≤ 1099511627777) :
    Calls Tryd.prog 74 #[.pointer (some ⟨gj, 0, none⟩)] w fun e w' => e = .returned (.int .i64 (roomE n st nx)) ∧ Below w.heap.size w w' := by
  have x4 : w.cell? ⟨gj, 4, none⟩ = some (.int .i64 nx) := blk_cell h 4
  have HFU := Aside0.mk (full_calls h h0 h1 h2 h3)
  have HB0 := Aside0.mk (Below.refl w.heap.size w)
  have HCUT := Aside0.mk (fun (e : Ending) (w' : World) (v : Int) (he : e = .returned (.int .i64 v)) (hb : v = roomE n st nx) (hw : Below w.heap.size w w') => (show e = .returned (.int .i64 (roomE n st nx)) ∧ Below w.heap.size w w' from ⟨by rw [he, hb], hw⟩))
  clear h h0 h1 h2 h3
  by_cases c1 : 1099511627776 < nx
  · have t1 : decide (1099511627776 < nx) = true := decide_eq_true c1
    have HE := Aside0.mk (show (171 : Int) = roomE n st nx from by unfold roomE; rw [if_pos c1])
    go_enter Tryd.func74, Tryd.ntmps74
    go_wp2
    go_ret
    exact HCUT.out _ _ _ rfl HE.out HB0.out
  · have t1 : decide (1099511627776 < nx) = false := decide_eq_false c1
    by_cases c2 : n ≤ nx - st
    · rw [decide_eq_true c2] at HFU
      have HE := Aside0.mk (show (170 : Int) = roomE n st nx from by unfold roomE; rw [if_neg c1, if_pos c2])
      clear c2
      go_enter Tryd.func74, Tryd.ntmps74
      go_wp2_with (go_at_call 46; (with_reducible refine HFU.out.mono ?_); rintro e w2 ⟨rfl, hb⟩; have HB2 := Aside0.mk hb; clear hb)
      go_ret
      exact HCUT.out _ _ _ rfl HE.out HB2.out
    · rw [decide_eq_false c2] at HFU
      have HE := Aside0.mk (show (0 : Int) = roomE n st nx from by unfold roomE; rw [if_neg c1, if_neg c2])
      clear c2
      go_enter Tryd.func74, Tryd.ntmps74
      go_wp2_with (go_at_call 46; (with_reducible refine HFU.out.mono ?_); rintro e w2 ⟨rfl, hb⟩; have HB2 := Aside0.mk hb; clear hb)
      go_ret
      exact HCUT.out _ _ _ rfl HE.out HB2.out
end Go.Proofs.YtagodmmpkapgnaaDoor.M

namespace Go.Proofs.YtagodmmpkapgnaaDoor.M
open Go.RowKit Go.Maps Go.Proofs.YtagodmmpkapgnaaDoorW.PrintWords Go.Proofs.YtagodmmpkapgnaaDoorW.PrintLast Go.Proofs.YtagodmmpkapgnaaDoorW.PrintMore Go.Proofs.YtagodmmpkapgnaaDoor.Wr Go.Proofs.YtagodmmpkapgnaaDoor.Pl Go.Proofs.YtagodmmpkapgnaaDoor.P Go.Proofs.YtagodmmpkapgnaaDoor.A
set_option linter.unusedVariables false
set_option linter.unusedSimpArgs false
set_option maxHeartbeats 8000000 in
set_option maxRecDepth 100000 in
theorem next_calls {gj gd : Nat} {fr n st nx : Int} {w : World} (h : w.heap[gj]? = some (.cells (jC gd fr n st nx) 134 (0, 0))) :
    Calls Tryd.prog 34 #[.pointer (some ⟨gj, 0, none⟩)] w fun e w' => e = .returned (.int .i64 nx) ∧ Below w.heap.size w w' := by
  have x4 : w.cell? ⟨gj, 4, none⟩ = some (.int .i64 nx) := blk_cell h 4
  have HB0 := Aside0.mk (Below.refl w.heap.size w)
  clear h
  go_enter Tryd.func34, Tryd.ntmps34
  go_wp2
  go_ret
  exact ⟨rfl, HB0.out⟩
end Go.Proofs.YtagodmmpkapgnaaDoor.M

namespace Go.Proofs.YtagodmmpkapgnaaDoor.M
open Go.RowKit Go.Maps Go.Proofs.YtagodmmpkapgnaaDoorW.PrintWords Go.Proofs.YtagodmmpkapgnaaDoorW.PrintLast Go.Proofs.YtagodmmpkapgnaaDoorW.PrintMore Go.Proofs.YtagodmmpkapgnaaDoor.Wr Go.Proofs.YtagodmmpkapgnaaDoor.Pl Go.Proofs.YtagodmmpkapgnaaDoor.P Go.Proofs.YtagodmmpkapgnaaDoor.A
set_option linter.unusedVariables false
set_option linter.unusedSimpArgs false
def repJ (S : Nat → List Int) (fr n : Nat) : Nat → Nat → List RC
  | 0, _ => []
  | k + 1, s => match decJ (S (fr + s % n)) with
    | none => []
    | some r => if r.n = (s : Int) then r :: repJ S fr n k (s + 1) else []
theorem repJ_none {S : Nat → List Int} {fr n k s : Nat} (h : decJ (S (fr + s % n)) = none) : repJ S fr n (k + 1) s = [] := by
  unfold repJ; rw [h]
theorem repJ_other {S : Nat → List Int} {fr n k s : Nat} {r : RC} (h : decJ (S (fr + s % n)) = some r) (hr : ¬ r.n = (s : Int)) : repJ S fr n (k + 1) s = [] := by
  unfold repJ; rw [h]; exact if_neg hr
theorem repJ_some {S : Nat → List Int} {fr n k s : Nat} {r : RC} (h : decJ (S (fr + s % n)) = some r) (hr : r.n = (s : Int)) : repJ S fr n (k + 1) s = r :: repJ S fr n k (s + 1) := by
  conv => lhs; unfold repJ
  rw [h]; exact if_pos hr
theorem repJ_len (S : Nat → List Int) (fr n : Nat) : ∀ k s, (repJ S fr n k s).length ≤ k
  | 0, _ => Nat.zero_le _
  | k + 1, s => by
    cases h : decJ (S (fr + s % n)) with
    | none => rw [repJ_none h]; exact Nat.zero_le _
    | some r =>
      by_cases hr : r.n = (s : Int)
      · rw [repJ_some h hr]; exact Nat.succ_le_succ (repJ_len S fr n k (s + 1))
      · rw [repJ_other h hr]; exact Nat.zero_le _
def DS.rdN (s : DS) : Nat → DS
  | 0 => s
  | k + 1 => (s.rdN k).reads
theorem DS.rdN_n (s : DS) : ∀ k, (s.rdN k).n = s.n
  | 0 => rfl
  | k + 1 => DS.rdN_n s k
theorem DS.rdN_cur (s : DS) : ∀ k, (s.rdN k).cur = s.cur
  | 0 => rfl
  | k + 1 => DS.rdN_cur s k
theorem Sep.dk_cur {w0 w : World} {L : List Th} {g : Nat} {s : DS} (h : Sep w0 w (dkT g s :: L)) (i : Nat) (hi : i < s.n) : (s.cur i).length = 512 := by
  have hL := h.dk_lasts
  obtain ⟨F, ⟨base, lb, cp, mb, f, k, D, h1, h2⟩, _⟩ := h.get
  unfold DS.cur
  cases e : (s.W i).getLast? with
  | none =>
    refine hL.2 _ ?_
    rw [List.getD_eq_getElem?_getD, List.getElem?_eq_getElem (show i < s.L.length by rw [hL.1]; exact hi)]
    exact List.getElem_mem _
  | some b => exact (h1.rows i hi).each b (List.mem_of_getLast? e)
set_option maxRecDepth 100000 in
theorem info26 : (Tryd.prog.info? 26).map (fun i => (i.zero, i.size, i.bytes)) = some (some (.agg zRC), 34, 64) := by unfold zRC; kernel_rfl
theorem run_bs26 (cells : Array Value) (h : cells.size = 34) (v : Value) (hv : v.cells = cells) (W : World) : (Instr.buildSlice 53 1 #[(0, v)]).run Tryd.prog W = .ok (.slice (some ⟨W.heap.size, 0, none⟩) 1 1) (W.alloc (.cells cells 26)) := by
  obtain ⟨i, hi, hz, hsz, hby⟩ := info_parts info26
  generalize Value.agg zRC = zv at hz
  refine run_buildSlice W _ _ 1 _ cells i zv Tryd.underlying53 hi hz (by rw [hsz]; decide) (by rw [hsz]; decide) ?_
  have hl : ((Array.range (1 * i.size)).map (zv.cells[· % zv.cells.size]!)).size = 34 := by
    rw [Array.size_map, Array.size_range, hsz]
  generalize (Array.range (1 * i.size)).map (zv.cells[· % zv.cells.size]!) = z at hl
  have h1 := fold_zip cells.toList 0 z.toList (by rw [Array.length_toList, Array.length_toList, h, hl]; omega)
  rw [Array.toArray_toList] at h1
  have h2 : cells.zipIdx.foldl (fun cs (p : Value × Nat) => cs.setIfInBounds (0 + p.2) p.1) z = (cells.toList.zipIdx 0).foldl (fun cs (p : Value × Nat) => cs.setIfInBounds (0 + p.2) p.1) z := by
    rw [← Array.foldl_toList, Array.toList_zipIdx]
  rw [h1] at h2
  have h3 : (z.toList.take 0 ++ cells.toList ++ z.toList.drop (0 + cells.toList.length)).toArray = cells := by
    rw [List.drop_of_length_le (by rw [Array.length_toList, Array.length_toList, h, hl]; omega), List.append_nil, List.take_zero, List.nil_append, Array.toArray_toList]
  rw [h3] at h2
  have h4 : ((v.cells.size ≠ i.size) || decide (0 * i.size + v.cells.size > z.size)) = false := by rw [hv, h, hsz, hl]; decide
  show Instr.fill _ z [(0, v)] = some cells
  unfold Instr.fill
  simp only [h4, Bool.false_eq_true, if_false]
  unfold Instr.fill
  rw [hv, Nat.zero_mul]
  exact congrArg some h2
section
variable {ops : Array Oper} {rest : List Oper} {o : Oper} {a : Act} {Q : Exit → Act → World → Prop} {w0 W : World} {L : List Th}
theorem wpList_bs26 (hgd : o.guard = none) (x : Operand) (ho : o.op = .buildSlice 53 1 #[(0, x)]) (cs : Array Value) (hx : a.eval x = .agg cs) (h : cs.size = 34)
    (hk : wpList Tryd.prog ops Q rest (a.put o.dst (.slice (some ⟨W.heap.size, 0, none⟩) 1 1)) (W.alloc (.cells cs 26))) : wpList Tryd.prog ops Q (o :: rest) a W :=
  wpList_plain hgd fun K hK => by
    have h1 := run_bs26 cs h (.agg cs) rfl W
    unfold Oper.wp execOp
    simp only [ho, hx, Sem.run_bind, List.map_toArray, List.map_cons, List.map_nil, h1, Result.andThen_ok]
    exact hK _ _ hk
theorem kRC_mkM {w : World} {base : Nat} {ok : Nat → Prop} {y : RC} (hy : y.Ok) {A : Option Addr} {c : Nat} (h : kRF.R 69 w base ok (.slice A y.r.length c) y.r) : kRC.M w base ok y (y.V A c) :=
  ⟨[.int .i64 y.n], _, rfl, rfl, ⟨nums .u8 y.p, _, rfl, ⟨⟨hy.k, hy.b⟩, rfl⟩, ⟨_, rfl, h⟩⟩⟩
theorem Sep.app_rec (hgd : o.guard = none) (s x : Operand) (ho : o.op = .call { callee := .builtin .append, args := #[s, x], argTypes := #[53, 53] })
    {v : Value} {l : List RC} (y : RC) (hy : y.Ok) (A : Option Addr) (c : Nat) (hs : a.eval s = v) (hx : a.eval x = .slice (some ⟨W.heap.size, 0, none⟩) 1 1) (h : Sep w0 W (ownT kRC 26 v l :: ownT kRF 69 (.slice A y.r.length c) y.r :: L)) (hl : l.length + 1 ≤ 1000000)
    (hk : ∀ v1 w1, Sep w0 w1 (ownT kRC 26 v1 (l ++ [y]) :: L) → wpList Tryd.prog ops Q rest (a.put o.dst v1) w1) : wpList Tryd.prog ops Q (o :: rest) a (W.alloc (.cells (y.V A c).toArray 26)) := by
  obtain ⟨U, ⟨F1, ⟨⟨b1, h1⟩, hlt1⟩, h2, F2, ⟨⟨b2, h4⟩, hlt2⟩, h5, _⟩, h6, h7⟩ := Sep.split (M := [ownT kRC 26 v l, ownT kRF 69 (.slice A y.r.length c) y.r]) h
  refine Kd.R_append kRC (w0 := W) 0 hgd s x 53 26 (.agg zRC) 64 ho Tryd.underlying53 info26 zRC_size (by decide) (by decide) v l y (y.V A c) (fun k => F1 k ∨ F2 k ∨ W.heap.size ≤ k) F2 hs hx (kRC_mkM hy (Kd.R_lower h4 (Nat.zero_le _))) (fun k hk => ⟨.inr (.inl hk), fun e => (h5 k hk).2 (h1.1 k e.symm)⟩) (fun k hk => .inr (.inr hk)) (Kd.R_mono (Kd.R_lower h1 (Nat.zero_le _)) (fun _ hk => .inl hk)) (Below.refl _ _) (Nat.zero_le _) (by omega) ?_
  intro v1 w1 hown _ hg _
  refine hk v1 w1 (h7 [ownT kRC 26 v1 (l ++ [y])] w1 ⟨fun k => (F1 k ∨ F2 k ∨ W.heap.size ≤ k) ∧ k < w1.heap.size, ⟨⟨0, Kd.R_mono (Kd.R_bound hown) (fun k hk => ⟨hk.1, hk.2.2.1⟩)⟩, fun b hb => hb.2⟩, fun b hb => ?_, trivial⟩ (Chg.of_grown hg (fun k hk => h2 k (h1.1 k hk))))
  rcases hb.1 with hb | hb | hb
  · exact .inl (h2 b hb)
  · exact .inl (h5 b hb).1
  · exact .inr hb
end
end Go.Proofs.YtagodmmpkapgnaaDoor.M

namespace Go.Proofs.YtagodmmpkapgnaaDoor.M
open Go.RowKit Go.Maps Go.Proofs.YtagodmmpkapgnaaDoorW.PrintWords Go.Proofs.YtagodmmpkapgnaaDoorW.PrintLast Go.Proofs.YtagodmmpkapgnaaDoorW.PrintMore Go.Proofs.YtagodmmpkapgnaaDoor.Wr Go.Proofs.YtagodmmpkapgnaaDoor.Pl Go.Proofs.YtagodmmpkapgnaaDoor.P Go.Proofs.YtagodmmpkapgnaaDoor.A
set_option linter.unusedVariables false
set_option linter.unusedSimpArgs false
theorem outj_false (n a b : Int) (w : World) (h : a ≤ n ∧ n ≤ b) : Calls Tryd.prog 62 #[.int .i64 n, .int .i64 a, .int .i64 b] w fun e w' => e = .returned (.bool false) ∧ Below w.heap.size w w' := by
  refine (outj_calls n a b w).mono ?_
  rintro e w' ⟨rfl, hb⟩
  exact ⟨by rw [show decide (n < a) = false from decide_eq_false (by omega), show decide (b < n) = false from decide_eq_false (by omega)]; rfl, hb⟩
theorem tmod_nat (a b : Nat) : ((a : Int)).tmod (b : Int) = ((a % b : Nat) : Int) := (Int.ofNat_tmod a b).symm
set_option maxHeartbeats 16000000 in
set_option maxRecDepth 100000 in
theorem Sep.replay {w0 w : World} {L : List Th} {g : Nat} {s : DS} (h : Sep w0 w (dkT g s :: L)) (hH : Wr.Half w0) (hb : ∀ i, i < s.n → bytes_ (s.cur i)) (fr n st : Nat) (h1 : 1 ≤ n) (h2 : n ≤ 1024) (h3 : fr + n ≤ s.n) (h4 : st ≤ 1099511627777) :
    Calls Tryd.prog 37 #[.pointer (some ⟨g, 0, none⟩), .int .i64 (fr : Int), .int .i64 (n : Int), .int .i64 (st : Int)] w fun e w' => ∃ A c l k, l = repJ s.cur fr n n st ∧ k = l.length + (if l.length < n then 1 else 0) ∧ e = .returned (.tuple #[.slice A l.length c, .int .i64 0]) ∧ Sep w0 w' (ownT kRC 26 (.slice A l.length c) l :: dkT g (s.rdN k) :: L) := by
  have HH := Aside0.mk hH
  have HB := Aside0.mk hb
  have HN := Aside0.mk h.dk_n
  have HS0 := Aside0.mk h
  have HF1 := Aside0.mk (fun W => outj_false (n : Int) 1 1024 W (by omega))
  have HF2 := Aside0.mk (fun W => outj_false (st : Int) 0 1099511627777 W (by omega))
  have HSE := Aside0.mk (h.sectors)
  have hz := (zero_of_info (P := Tryd.prog) (t := 26) (v := .agg zRC) (n := 34) (by unfold zRC; kernel_rfl)).1
  have HSZ := Aside0.mk (show (Tryd.prog.info? 26).map (·.size) = some zRC.size from size26 zRC_size)
  have HZs := Aside0.mk zRC_size
  have HZA := Aside0.mk zRC_all
  have HFR := Aside0.mk h3
  have HN1 := Aside0.mk h1
  have f1 : decide ((fr : Int) < 0) = false := decide_eq_false (by omega)
  have f2 : decide ((s.n : Int) - (n : Int) < (fr : Int)) = false := decide_eq_false (by omega)
  have hn1 : (n : Int) ≤ 1024 := by omega
  have hs1 : (s.n : Int) ≤ 65536 := by have := h.dk_n; omega
  have hs0 : (0 : Int) ≤ (s.n : Int) := by omega
  have hfr : (fr : Int) ≤ 65536 := by have := h.dk_n; omega
  have hst : (st : Int) ≤ 1099511627777 := by omega
  have hnz : ¬ (n : Int) = 0 := by omega
  have HST := Aside0.mk (show ∀ l : List RC, (l = repJ s.cur fr n n st) → ∀ k, k = l.length + (if l.length < n then 1 else 0) → ∀ (A : Option Addr) (c : Nat) (e : Ending) (w' : World), e = .returned (.tuple #[.slice A l.length c, .int .i64 0]) → Sep w0 w' (ownT kRC 26 (.slice A l.length c) l :: dkT g (s.rdN k) :: L) → ∃ A c l k, l = repJ s.cur fr n n st ∧ k = l.length + (if l.length < n then 1 else 0) ∧ e = .returned (.tuple #[.slice A l.length c, .int .i64 0]) ∧ Sep w0 w' (ownT kRC 26 (.slice A l.length c) l :: dkT g (s.rdN k) :: L) from fun l hl k hk A c e w' he hS => ⟨A, c, l, k, hl, hk, he, hS⟩)
  generalize hZE : zRC = Z at hz HSZ HZs HZA
  have HZE := Aside0.mk hZE
  clear hZE
  clear h hH hb h1 h2 h3 h4
  go_enter Tryd.func37, Tryd.ntmps37
  go_upto_region 3 with (first
    | (go_at_call 62; (with_reducible refine (HF1.out _).mono ?_); rintro e w2 ⟨rfl, hb⟩; have HS1 := Aside0.mk (HS0.out.step hb); clear hb)
    | (go_at_call 79; (with_reducible refine (HS1.out.sectors).mono ?_); rintro e w3 ⟨rfl, rfl⟩)
    | (go_at_call 62; (with_reducible refine (HF2.out _).mono ?_); rintro e w4 ⟨rfl, hb⟩; have HS2 := Aside0.mk (HS1.out.step hb); clear hb))
  clear HS0 HF1 HF2 HSE f1 f2
  go_upto_region 4 with (fail)
  go_loopg [10] n (fun kq v10 wr => ∃ (i : Nat) (A : Option Addr) (c : Nat) (xs : List RC), v10 = .slice A i c ∧ Aside0 (xs.length = i ∧ i + kq = n ∧ repJ s.cur fr n n st = xs ++ repJ s.cur fr n (n - i) (st + i)) ∧ Aside0 (Sep w0 wr (ownT kRC 26 (.slice A i c) xs :: dkT g (s.rdN i) :: L)))
  case atStart => exact ⟨0, none, 0, [], rfl, ⟨rfl, by omega, rfl⟩, ⟨HS2.out.push_nil kRC 26⟩⟩
  case round =>
    obtain ⟨i, A, c, xs, rfl, HJ, HS⟩ := hrel
    clear HS1 HS2
    by_cases hi : i < n
    · have t0 : decide ((i : Int) < (n : Int)) = true := decide_eq_true (by omega)
      have hi1 : (i : Int) < (n : Int) := by omega
      have HI := Aside0.mk hi
      have HM := Aside0.mk (show (st + i) % n < n from Nat.mod_lt _ HN1.out)
      have hmod : ((st : Int) + (i : Int)).tmod (n : Int) = (((st + i) % n : Nat) : Int) := by rw [← Int.natCast_add]; exact tmod_nat _ _
      have HRE := Aside0.mk (show repJ s.cur fr n n st = xs ++ repJ s.cur fr n ((n - (i + 1)) + 1) (st + i) from by rw [show (n - (i + 1)) + 1 = n - i by omega]; exact HJ.out.2.2)
      have HDN := Aside0.mk (fun x => repJ_none (S := s.cur) (fr := fr) (n := n) (k := n - (i + 1)) (s := st + i) x)
      have HDO := Aside0.mk (fun r x y => repJ_other (S := s.cur) (fr := fr) (n := n) (k := n - (i + 1)) (s := st + i) (r := r) x y)
      have HDS := Aside0.mk (fun r x y => repJ_some (S := s.cur) (fr := fr) (n := n) (k := n - (i + 1)) (s := st + i) (r := r) x y)
      generalize (st + i) % n = q at HM hmod HDN HDO HDS
      have hq : (q : Int) < (n : Int) := by have := HM.out; omega
      have hrn : (s.rdN i).n = s.n := s.rdN_n i
      have HQ := Aside0.mk (show fr + q < s.n from by have := HM.out; have := HFR.out; omega)
      have HRD := Aside0.mk (show Calls Tryd.prog 50 #[.pointer (some ⟨g, 0, none⟩), .int .i64 ((fr : Int) + (q : Int))] wr (fun e w' => ∃ v, e = .returned (.tuple #[v, .int .i64 0]) ∧ Sep w0 w' (ownT (Kd.int .u8) 5 v (s.cur (fr + q)) :: dkT g (s.rdN (i + 1)) :: ownT kRC 26 (.slice A i c) xs :: L)) from by
        have h := HS.out.up1.read (fr + q) (by rw [hrn]; exact HQ.out)
        rw [DS.rdN_cur, Int.natCast_add] at h
        exact h)
      have HBB := Aside0.mk (And.intro (HB.out _ HQ.out) (by have h := HS.out.up1.dk_cur (fr + q) (by rw [hrn]; exact HQ.out); rwa [DS.rdN_cur] at h))
      generalize s.cur (fr + q) = b at HRD HBB HDN HDO HDS
      clear hrn HS HQ
      go_upto_region 7 with (first
        | (go_at_call 50; (with_reducible refine HRD.out.mono ?_); rintro e w5 ⟨v12, rfl, h5⟩; have HS5 := Aside0.mk h5; clear h5))
      obtain ⟨A2, c2, rfl⟩ := HS5.out.own_slice
      rw [HBB.out.2] at HS5 ⊢
      have HC5 := Aside0.mk (show (Kd.int .u8).C w5 A2 512 b ∧ 512 ≤ c2 from by have h := HS5.out.own_C; rwa [HBB.out.2] at h)
      have HHW := Aside0.mk (HH.out.below HS5.out.below)
      cases hd : decJ b with
      | none =>
        have HDC := Aside0.mk (decode_none b HBB.out.1 A2 512 c2 HBB.out.2 HC5.out.2 w5 HHW.out HC5.out.1 hd)
        rw [HZE.out] at HDC
        have HRX := Aside0.mk (HDN.out hd)
        clear hd HDN HDO HDS HRD HBB HC5 HHW
        go_upto_region 8 with (first
          | (go_at_call 24; (with_reducible refine HDC.out.mono ?_); rintro e w6 ⟨rfl, hb⟩; have HS6 := Aside0.mk (HS5.out.step hb); clear hb)
          | ((with_reducible refine gate_store (ty := 26) rfl ?_); refine Sep.store_own rfl 26 _ _ rfl rfl rfl (HS6.out.push_alloc Z 26) HSZ.out rfl HZA.out ?_; intro w7 h7; have HS7 := Aside0.mk h7; clear h7))
        clear HS5 HS6 HDC
        go_wp2
        go_ret2
        exact HST.out xs (by rw [HRE.out, HRX.out, List.append_nil]) (i + 1) (by rw [HJ.out.1, if_pos HI.out]) A c _ _ (by rw [HJ.out.1]; rfl) (by rw [HJ.out.1]; exact HS7.out.drop.drop.up1)
      | some r =>
        have HRO := Aside0.mk ((decJ_some HBB.out.1 hd).1)
        have HDC := Aside0.mk (decode_some b HBB.out.1 A2 512 c2 HBB.out.2 HC5.out.2 w5 HHW.out HC5.out.1 r hd)
        have HDO := Aside0.mk (HDO.out r hd)
        have HDS := Aside0.mk (HDS.out r hd)
        clear hd HDN HRD HBB HC5 HHW
        have HSV := Aside0.mk (fun A c => RC.size HRO.out A c)
        have HAV := Aside0.mk (fun A c => RC.V_all r A c)
        have HVS := Aside0.mk (fun A c => (show (r.V A c).toArray.size = 34 from by simpa using RC.V_len HRO.out A c))
        go_upto_region 8 with (first
          | (go_at_call 24; (with_reducible refine HDC.out.mono ?_); rintro e w6 ⟨A3, c3, rfl, h6⟩; have HS6 := Aside0.mk (HS5.out.then_ h6); clear h6; generalize hV : (r.V A3 c3).toArray = V; have HV := Aside0.mk hV; have HSV := Aside0.mk (HSV.out A3 c3); have HAV := Aside0.mk (HAV.out A3 c3); have HVS := Aside0.mk (HVS.out A3 c3); rw [hV] at HSV HAV HVS; clear hV)
          | ((with_reducible refine gate_store (ty := 26) rfl ?_); refine Sep.store_own rfl 26 _ _ rfl rfl rfl (HS6.out.push_alloc Z 26) HSV.out (HZs.out.trans HVS.out.symm) HAV.out ?_; intro w7 h7; have HS7 := Aside0.mk h7; clear h7))
        clear HS5 HS6 HDC
        generalize w6.heap.size = g7 at HS7 ⊢
        have x0 : w7.cell? ⟨g7, 0, none⟩ = some (.int .i64 r.n) := by
          have h := HS7.out.cells.1
          rw [← HV.out] at h
          exact cell_at h 0 rfl
        by_cases hr : r.n = (st : Int) + (i : Int)
        · have HRN := Aside0.mk (show r.n = ((st + i : Nat) : Int) from by rw [hr]; omega)
          have HRE2 := Aside0.mk (HDS.out HRN.out)
          go_upto_region 9 with (fail)
          have HS8 := Aside0.mk (HS7.out)
          clear x0 hr HS7
          have HLD := Aside0.mk (show ∀ j v, V.toList[j]? = some v → w7.cell? ((⟨g7, 0, none⟩ : Addr).add j) = some v from fun j v hv => seg_at (cs := V.toList) HS8.out.cells.1 0 V.toList (by rw [List.drop_zero]; exact List.take_of_length_le (Nat.le_refl _)) j v hv)
          have HS9 := Aside0.mk (show Sep w0 w7 (ownT kRC 26 (.slice A i c) xs :: ownT kRF 69 (.slice A3 r.r.length c3) r.r :: dkT g (s.rdN (i + 1)) :: L) from HS8.out.drop.up1.drop.up2)
          go_wp2_with (first
            | ((with_reducible refine gate_load (ty := 26) rfl ?_); refine wpList_ldw ?_ 26 _ rfl ⟨g7, 0, none⟩ ?_ V _ HLD.out Tryd.underlying26 rfl HSV.out ?_; exact rfl; exact rfl; skip)
            | ((with_reducible refine gate_bs (ty := 53) rfl ?_); refine wpList_bs26 rfl _ rfl V rfl HVS.out ?_; rw [← HV.out])
            | ((with_reducible refine gate_builtin (b := .append) (xs := #[.tmp 69, .tmp 71]) rfl ?_); refine Sep.app_rec rfl _ _ rfl r HRO.out A3 c3 rfl rfl HS9.out ?aL ?_; (case aL => have := HJ.out.1; have := HI.out; omega); intro v1 wa ha; obtain ⟨A4, c4, rfl⟩ := ha.own_slice; have HSa := Aside0.mk ha; clear ha))
          go_roundg (n - (i + 1))
          case measure => have := HJ.out; have := HI.out; omega
          case rel => exact ⟨i + 1, A4, c4, xs ++ [r], by rw [HJ.out.1], ⟨by rw [List.length_append, HJ.out.1]; rfl, by have := HI.out; omega, by rw [HRE.out, HRE2.out, List.append_assoc]; rfl⟩, ⟨by have h := HSa.out; rw [List.length_append, HJ.out.1] at h; exact h⟩⟩
        · have HRX := Aside0.mk (HDO.out (fun e => hr (by rw [e]; omega)))
          go_wp2
          go_ret2
          exact HST.out xs (by rw [HRE.out, HRX.out, List.append_nil]) (i + 1) (by rw [HJ.out.1, if_pos HI.out]) A c _ _ (by rw [HJ.out.1]; rfl) (by rw [HJ.out.1]; exact HS7.out.drop.drop.drop.up1)
    · have t0 : decide ((i : Int) < (n : Int)) = false := decide_eq_false (by omega)
      obtain rfl : i = n := by have := HJ.out.2.1; omega
      go_wp2
      go_ret2
      exact HST.out xs (by have h := HJ.out.2.2; rw [Nat.sub_self] at h; rw [h]; unfold repJ; rw [List.append_nil]) i (by rw [HJ.out.1, if_neg (Nat.lt_irrefl i), Nat.add_zero]) A c _ _ (by rw [HJ.out.1]; rfl) (by rw [HJ.out.1]; exact HS.out)
end Go.Proofs.YtagodmmpkapgnaaDoor.M

namespace Go.Proofs.YtagodmmpkapgnaaDoor.M
open Go.RowKit Go.Maps Go.Proofs.YtagodmmpkapgnaaDoorW.PrintWords Go.Proofs.YtagodmmpkapgnaaDoorW.PrintLast Go.Proofs.YtagodmmpkapgnaaDoorW.PrintMore Go.Proofs.YtagodmmpkapgnaaDoor.Wr Go.Proofs.YtagodmmpkapgnaaDoor.Pl Go.Proofs.YtagodmmpkapgnaaDoor.P Go.Proofs.YtagodmmpkapgnaaDoor.A
set_option linter.unusedVariables false
set_option linter.unusedSimpArgs false
set_option maxHeartbeats 16000000 in
set_option maxRecDepth 100000 in
theorem Sep.opens {w0 w : World} {L : List Th} {g : Nat} {s : DS} (h : Sep w0 w (dkT g s :: L)) (hH : Wr.Half w0) (hb : ∀ i, i < s.n → bytes_ (s.cur i)) (fr n st : Nat) (h1 : 1 ≤ n) (h2 : n ≤ 1024) (h3 : fr + n ≤ s.n) (h4 : st ≤ 1099511627777) :
    Calls Tryd.prog 30 #[.pointer (some ⟨g, 0, none⟩), .int .i64 (fr : Int), .int .i64 (n : Int), .int .i64 (st : Int)] w fun e w' => ∃ gj A c l k, l = repJ s.cur fr n n st ∧ k = l.length + (if l.length < n then 1 else 0) ∧ e = .returned (.tuple #[.pointer (some ⟨gj, 0, none⟩), .slice A l.length c, .int .i64 0]) ∧ Sep w0 w' (cellsT gj (jC g fr n st ((st + l.length : Nat) : Int)) 134 :: ownT kRC 26 (.slice A l.length c) l :: dkT g (s.rdN k) :: L) := by
  have HRP := Aside0.mk (h.replay hH hb fr n st h1 h2 h3 h4)
  have HST := Aside0.mk (show ∀ l : List RC, (l = repJ s.cur fr n n st) → ∀ k, k = l.length + (if l.length < n then 1 else 0) → ∀ (gj : Nat) (A : Option Addr) (c : Nat) (e : Ending) (w' : World), e = .returned (.tuple #[.pointer (some ⟨gj, 0, none⟩), .slice A l.length c, .int .i64 0]) → Sep w0 w' (cellsT gj (jC g fr n st ((st + l.length : Nat) : Int)) 134 :: ownT kRC 26 (.slice A l.length c) l :: dkT g (s.rdN k) :: L) → ∃ gj A c l k, l = repJ s.cur fr n n st ∧ k = l.length + (if l.length < n then 1 else 0) ∧ e = .returned (.tuple #[.pointer (some ⟨gj, 0, none⟩), .slice A l.length c, .int .i64 0]) ∧ Sep w0 w' (cellsT gj (jC g fr n st ((st + l.length : Nat) : Int)) 134 :: ownT kRC 26 (.slice A l.length c) l :: dkT g (s.rdN k) :: L) from fun l hl k hk gj A c e w' he hS => ⟨gj, A, c, l, k, hl, hk, he, hS⟩)
  have HLN := Aside0.mk (repJ_len s.cur fr n n st)
  have hst : (st : Int) ≤ 1099511627777 := by omega
  have HN := Aside0.mk h2
  clear h hH hb h1 h2 h3 h4
  go_enter Tryd.func30, Tryd.ntmps30
  go_upto_region 4 with (go_at_call 37; (with_reducible refine HRP.out.mono ?_); rintro e w2 ⟨A, c, l, k, hl, hk, rfl, h2⟩; have HS2 := Aside0.mk h2; have HL := Aside0.mk (And.intro hl hk); clear h2 hl hk)
  have hl1 : (l.length : Int) ≤ 1024 := by have h := HLN.out; rw [← HL.out.1] at h; have := HN.out; omega
  have hl0 : (0 : Int) ≤ (l.length : Int) := by omega
  go_wp2
  go_ret3
  exact HST.out l HL.out.1 k HL.out.2 w2.heap.size A c _ _ rfl (by
    have h := HS2.out.push_alloc (jC g fr n st ((st + l.length : Nat) : Int)) 134
    rw [Int.natCast_add] at h ⊢
    exact h)
end Go.Proofs.YtagodmmpkapgnaaDoor.M

namespace Go.Proofs.YtagodmmpkapgnaaDoor.M
open Go.RowKit Go.Maps Go.Proofs.YtagodmmpkapgnaaDoorW.PrintWords Go.Proofs.YtagodmmpkapgnaaDoorW.PrintLast Go.Proofs.YtagodmmpkapgnaaDoorW.PrintMore Go.Proofs.YtagodmmpkapgnaaDoor.Wr Go.Proofs.YtagodmmpkapgnaaDoor.Pl Go.Proofs.YtagodmmpkapgnaaDoor.P Go.Proofs.YtagodmmpkapgnaaDoor.A
set_option linter.unusedVariables false
set_option linter.unusedSimpArgs false
def exT {ι : Type} (f : ι → List Th) : Th where
  P := fun w F => (∃ i, Hold w (f i) F) ∧ ∀ b, F b → b < w.heap.size
  foot := fun h => h.2
  step := by
    rintro w w' F ⟨⟨i, h1⟩, h2⟩ h
    exact ⟨⟨i, h1.move (fun b hb _ => h b hb)⟩, fun b hb => same_lt (h b hb) (h2 b hb)⟩
section
variable {w0 w : World} {L M : List Th} {ι : Type} {f : ι → List Th}
theorem Hold.narrow {w : World} : ∀ {L : List Th} {U : Nat → Prop}, Hold w L U → Hold w L (fun b => U b ∧ b < w.heap.size) := fun h => h.mono (fun b hb hlt => ⟨hb, hlt⟩)
theorem Sep.exO (h : Sep w0 w (exT f :: L)) : ∃ i, Sep w0 w (f i ++ L) := by
  obtain ⟨F, ⟨⟨i, h1⟩, h2⟩, h3, h4⟩ := h.open_
  exact ⟨i, h4 (f i) w (h1.mono (fun b hb _ => .inl hb)) (Chg.refl _ _)⟩
theorem Sep.exI (i : ι) (h : Sep w0 w (f i ++ L)) : Sep w0 w (exT f :: L) := by
  obtain ⟨U, h1, h2, h3⟩ := Sep.split h
  exact h3 [exT f] w ⟨fun b => U b ∧ b < w.heap.size, ⟨⟨i, h1.narrow⟩, fun b hb => hb.2⟩, fun b hb => .inl hb.1, trivial⟩ (Chg.refl _ _)
end
section
variable {ops : Array Oper} {rest : List Oper} {o : Oper} {a : Act} {Q : Exit → Act → World → Prop} {w0 W : World} {L : List Th}
theorem Sep.app_refs (hgd : o.guard = none) (s x : Operand) (ho : o.op = .call { callee := .builtin .append, args := #[s, x], argTypes := #[24, 24] })
    {v : Value} {l : List RF} (ys : List RF) {A : Option Addr} {m c : Nat} (hs : a.eval s = v) (hx : a.eval x = .slice A m c) (h : Sep w0 W (ownT kRF 69 v l :: L)) (HR : kRF.C W A m ys) (hl : l.length + m ≤ 1000000)
    (hk : ∀ v1 w1, Sep w0 w1 (ownT kRF 69 v1 (l ++ ys) :: L) → wpList Tryd.prog ops Q rest (a.put o.dst v1) w1) : wpList Tryd.prog ops Q (o :: rest) a W := by
  obtain ⟨ok, hfresh, hr, back⟩ := h.open_own
  refine Kd.R_append_rows kRF (Rr := kRF.K W) (w0 := W) 0 hgd s x 24 69 (.agg zRF.V.toArray) 48 ho Tryd.underlying24 info69 (by show zRF.V.toArray.size = 34; simpa using RF.V_len zRF_ok) (by decide) (by decide) v l ys A m c ok (fun _ => False) hs hx hr HR (fun _ _ h => h) (fun _ hk => hk.elim) hfresh (Below.refl _ _) (Nat.zero_le _) (by omega) ?_
  intro v1 w1 hown _ hg _
  exact hk v1 w1 (back v1 (l ++ ys) w1 hown hg)
end
theorem empty_any {α : Type} (d : Kd α) (W : World) (e base : Nat) (hb : base ≤ W.heap.size) : d.R e (W.alloc (.cells #[] e)) base (fun _ => True) (.slice (some ⟨W.heap.size, 0, none⟩) 0 0) [] := by
  have h := World.ownsRow_lit (base := base) (e := e) (size := d.sz) W #[] 0 hb (by decide) (by simp)
  exact ⟨fun _ _ => trivial, [], by simpa using h, Reps.none _ _⟩
theorem Sep.push_empty {w0 w : World} {L : List Th} {α : Type} (h : Sep w0 w L) (d : Kd α) (e : Nat) : Sep w0 (w.alloc (.cells #[] e)) (ownT d e (.slice (some ⟨w.heap.size, 0, none⟩) 0 0) [] :: L) :=
  h.push_own (empty_any d w e w.heap.size (Nat.le_refl _)) (below_alloc (Below.refl _ _) _)
set_option maxHeartbeats 4000000 in
set_option maxRecDepth 100000 in
theorem clone75 (ad : Addr) (n c : Nat) (xs : List RF) (w : World) (h : kRF.C w (some ad) n xs) (hl : n ≤ 10000) :
    Calls Tryd.prog 75 #[.slice (some ad) n c] w fun e w' => ∃ v, e = .returned v ∧ Sep w w' [ownT kRF 69 v xs] := by
  have hq : ∀ W : World, (binOp .eql 24 (.slice (some ad) n c) (.slice none 0 0)).run Tryd.prog W = .ok (.bool false) W := fun W => Lib.run_eql_slice_nil W _ 69 (some ad) n c 0 0 Tryd.underlying24
  have HS0 := Aside0.mk (Sep.refl w)
  have HC := Aside0.mk (fun W (hb : Below w.heap.size w W) => Kd.C_below h hb)
  have HL := Aside0.mk hl
  clear h hl
  go_enter Tryd.func75, Tryd.ntmps75
  go_upto_region 3 with (fail)
  go_wp2_with ((with_reducible refine gate_builtin (b := .append) (xs := #[.tmp 5, .tmp 6]) rfl ?_); refine Sep.app_refs rfl _ _ rfl xs rfl rfl (HS0.out.push_empty kRF 69) (HC.out _ (below_alloc (Below.refl _ _) _)) ?aL ?_; (case aL => have := HL.out; simp; omega); intro v1 w1 h1; have HS1 := Aside0.mk h1; clear h1)
  go_ret
  exact ⟨v1, rfl, by have h := HS1.out; rwa [List.nil_append] at h⟩
end Go.Proofs.YtagodmmpkapgnaaDoor.M

namespace Go.Proofs.YtagodmmpkapgnaaDoor.M
open Go.RowKit Go.Maps Go.Proofs.YtagodmmpkapgnaaDoorW.PrintWords Go.Proofs.YtagodmmpkapgnaaDoorW.PrintLast Go.Proofs.YtagodmmpkapgnaaDoorW.PrintMore Go.Proofs.YtagodmmpkapgnaaDoor.Wr Go.Proofs.YtagodmmpkapgnaaDoor.Pl Go.Proofs.YtagodmmpkapgnaaDoor.P Go.Proofs.YtagodmmpkapgnaaDoor.A
set_option linter.unusedVariables false
set_option linter.unusedSimpArgs false
structure WR where
  wt : Bool
  nm : Int
  en : Bool
  e : Int
  gj : Nat
  p : List Int
  r : List RF
def WR.V (x : WR) (A : Option Addr) (c : Nat) : List Value := [.bool x.wt, .int .i64 x.nm, .bool x.en, .int .i64 x.e, .pointer (some ⟨x.gj, 0, none⟩)] ++ (nums .u8 x.p ++ [.slice A x.r.length c])
def wT (gw : Nat) (x : WR) : Th := exT (fun q : Option Addr × Nat => [cellsT gw (x.V q.1 q.2).toArray 139, ownT kRF 69 (.slice q.1 x.r.length q.2) x.r])
def newW (gj : Nat) (p : List Int) (r : List RF) : WR := ⟨false, 0, false, 0, gj, p, r⟩
set_option maxRecDepth 100000 in
theorem built139 (gj : Nat) (ky : List Int) (h : ky.length = 32) (r : List RF) (m : Nat) (hm : r.length = m) (A : Option Addr) (c : Nat) : Tryd.prog.built 139 [(1, .pointer (some ⟨gj, 0, none⟩)), (2, .agg (nums .u8 ky).toArray), (3, .slice A m c)] = some ((newW gj ky r).V A c).toArray := by
  subst hm
  obtain ⟨x0, x1, x2, x3, x4, x5, x6, x7, x8, x9, x10, x11, x12, x13, x14, x15, x16, x17, x18, x19, x20, x21, x22, x23, x24, x25, x26, x27, x28, x29, x30, x31, rfl⟩ := list32 ky h
  kernel_rfl
def ad6_T : Bool × List (List Nat × List Nat) := (true, [([], []), ([], []), ([], []), ([2], [2]), ([0, 1, 3], [0, 1, 3]), ([4], [4]), ([5, 3, 0, 1, 2, 3, 4, 5], [5]), ([6, 0, 1, 2, 3, 4, 5, 6], [])])
def ad6_B : List Nat := [0, 0, 0, 4, 15, 31, 63, 127]
theorem ad6_tab : rtab .any (opsOf Tryd.f32 6) = ad6_T := by kernel_rfl
theorem ad6_bits : waitsOk ad6_T.2 ad6_B = true := by kernel_rfl
set_option maxHeartbeats 16000000 in
set_option maxRecDepth 100000 in
theorem Sep.add {w0 w : World} {L : List Th} {gj gd : Nat} {fr n st nx : Int} (h : Sep w0 w (cellsT gj (jC gd fr n st nx) 134 :: L)) (h0 : 0 ≤ st) (h1 : st ≤ 1099511627777) (h2 : 0 ≤ nx) (h3 : nx ≤ 1099511627777) (ky : List Int) (hk : ky.length = 32) (l : List RF) (m : Nat) (hm : l.length = m) (A : Option Addr) (c : Nat) (hC : kRF.C w A m l) :
    Calls Tryd.prog 32 #[.pointer (some ⟨gj, 0, none⟩), .agg (nums .u8 ky).toArray, .slice A m c] w fun e w' =>
      (refsM l = true ∧ roomE n st nx = 0 → ∃ gw, e = .returned (.tuple #[.pointer (some ⟨gw, 0, none⟩), .int .i64 0]) ∧ Sep w0 w' (wT gw (newW gj ky l) :: cellsT gj (jC gd fr n st nx) 134 :: L)) ∧
      (refsM l = true ∧ roomE n st nx ≠ 0 → e = .returned (.tuple #[.pointer none, .int .i64 (roomE n st nx)]) ∧ Sep w0 w' (cellsT gj (jC gd fr n st nx) 134 :: L)) ∧
      (refsM l = false → e = .returned (.tuple #[.pointer none, .int .i64 172]) ∧ Sep w0 w' (cellsT gj (jC gd fr n st nx) 134 :: L)) := by
  have HS0 := Aside0.mk h
  have HLI := Aside0.mk (fun W (hb : Below w.heap.size w W) => listed_calls l m hm A c W (Kd.C_below hC hb))
  have HRM := Aside0.mk (fun (W : World) (h : W.heap[gj]? = some (.cells (jC gd fr n st nx) 134 (0, 0))) => room_calls h h0 h1 h2 h3)
  have HSK := Aside0.mk (show (Tryd.prog.info? 23).map (·.size) = some (nums .u8 ky).toArray.size from size23 (by simpa [nums_length] using hk))
  have HM := Aside0.mk hm
  have HBW := Aside0.mk (fun W (hb : Below w.heap.size w W) => Kd.C_below hC hb)
  have HBD := Aside0.mk (fun A c => built139 gj ky hk l m hm A c)
  generalize hV : (newW gj ky l).V = V at HBD
  have HV := Aside0.mk hV
  clear hV
  by_cases hl : refsM l = true
  · rw [hl] at HLI
    have HL := Aside0.mk hl
    have hm1 := (refsM_iff l).1 hl
    have HM8 := Aside0.mk (show m ≤ 8 from by omega)
    obtain ⟨ad, rfl, _⟩ := hC.2.2 (by omega)
    have HCL := Aside0.mk (fun W (hb : Below w.heap.size w W) => clone75 ad m c l W (Kd.C_below hC hb) (by have := HM8.out; omega))
    clear hl hm1 hC hm h0 h1 h2 h3 h hk
    generalize (nums .u8 ky).toArray = K at HSK HBD ⊢
    go_enter Tryd.func32, Tryd.ntmps32
    go_upto_region 1 with (fail)
    have HS1 := Aside0.mk (HS0.out.push_alloc K 23)
    have HB1 := Aside0.mk (below_alloc (Below.refl w.heap.size w) (.cells K 23))
    generalize w.alloc (.cells K 23) = w1 at HS1 HB1 ⊢
    generalize w.heap.size = g4 at HS1 ⊢
    have HKC := Aside0.mk (fun (W : World) (M : List Th) (h : Sep w0 W (cellsT g4 K 23 :: M)) => (show ∀ j v, K.toList[j]? = some v → W.cell? ((⟨g4, 0, none⟩ : Addr).add j) = some v from fun j v hv => seg_at (cs := K.toList) h.cells.1 0 K.toList (by rw [List.drop_zero]; exact List.take_of_length_le (Nat.le_refl _)) j v hv))
    go_upto_region 4 with (first
      | (go_at_call 63; (with_reducible refine (HLI.out _ HB1.out).mono ?_); rintro e w2 ⟨rfl, hb⟩; have HS2 := Aside0.mk (HS1.out.step hb); have HB2 := Aside0.mk (below_step HB1.out hb); clear hb)
      | (go_at_call 74; (with_reducible refine (HRM.out _ HS2.out.up1.cells.1).mono ?_); rintro e w3 ⟨rfl, hb⟩; have HS3 := Aside0.mk (HS2.out.step hb); have HB3 := Aside0.mk (below_step HB2.out hb); clear hb))
    clear HS1 HS2 HB1 HB2
    by_cases hr : roomE n st nx = 0
    · rw [hr]
      have HR := Aside0.mk hr
      clear hr
      go_upto_region 6 with (fail)
      have HSx := Aside0.mk (HS3.out.step (below_drew1 (Below.refl w3.heap.size w3)))
      have HBx := Aside0.mk (below_step HB3.out (below_drew1 (Below.refl w3.heap.size w3)))
      clear HS3 HB3
      refine start_ (n := 8) (S := fun W => ∀ j v, K.toList[j]? = some v → W.cell? ((⟨g4, 0, none⟩ : Addr).add j) = some v) (ds := []) (bb 8 0) (by kernel_rfl) rfl rfl (HKC.out _ _ HSx.out) (fun hHeld => ?_); refine with_tabW ad6_tab ad6_bits (fun HT_ HW_ => ?_)
      generalize w3.drew = wd at hHeld HSx HBx ⊢
      refine pure_ (i := 0) (N := (some 17)) (v := ?_) (a' := ?_) (bb 8 1) rfl rfl (any_of HT_.out (by kernel_rfl)) (fun _ _ _ h => h) (Or.inl ⟨by rfl, ?_⟩) ?_ ?_
      rotate_left
      · intro w'
        go_simp
        with_reducible rfl
      rotate_left
      · simp only [Act.put, List.setIfInBounds_toArray, List.set_cons_zero, List.set_cons_succ, i64_w, i32_w]
        rfl
      refine take_ (i := 1) (N := (some 18)) (v := .agg K) (a' := ?_) (bb 8 3) rfl rfl (take_ofW HT_.out HW_.out (by kernel_rfl)) (fun _ _ _ h => h) (Or.inl ⟨by rfl, fun w' s0 => yields_ld 23 _ rfl ⟨g4, 0, none⟩ rfl K _ s0 Tryd.underlying23 rfl HSK.out⟩) hHeld ?_ ?_
      rotate_left
      · simp only [Act.put, List.setIfInBounds_toArray, List.set_cons_zero, List.set_cons_succ, i64_w, i32_w]
        rfl
      refine pure_ (i := 2) (N := (some 19)) (v := ?_) (a' := ?_) (bb 8 7) rfl rfl (any_of HT_.out (by kernel_rfl)) (fun _ _ _ h => h) (Or.inl ⟨by rfl, ?_⟩) ?_ ?_
      rotate_left
      · intro w'
        go_simp
        with_reducible rfl
      rotate_left
      · simp only [Act.put, List.setIfInBounds_toArray, List.set_cons_zero, List.set_cons_succ, i64_w, i32_w]
        rfl
      refine one_ (i := 3) (N := (some 20)) (bb 8 15) rfl rfl (one_of HT_.out (by kernel_rfl)) (by decide) (fun K hK => ?_)
      refine goes_ Tryd.func75 (by kernel_rfl) rfl #[.slice (some ad) m c] (by rfl) rfl rfl (by (try simp only [List.map_toArray, List.map_cons, List.map_nil]); first | done | rfl) ?_
      with_reducible refine (HCL.out _ HBx.out).mono ?_
      rintro e w5 ⟨v5, rfl, h5⟩
      have HS5 := Aside0.mk (HSx.out.then_ h5)
      clear h5
      obtain ⟨A5, c5, rfl⟩ := HS5.out.own_slice
      rw [HM.out] at HS5 ⊢
      refine ⟨_, rfl, ?_⟩
      refine hK.out _ _ (HKC.out _ _ HS5.out.up1) (fun hHeld => ?_)
      clear hK K
      refine norm_ (a' := ?_) ?_ ?_
      rotate_left
      · show Act.put _ (some 20) _ = _
        simp only [Act.put, List.setIfInBounds_toArray, List.set_cons_zero, List.set_cons_succ, i64_w, i32_w]
        rfl
      refine pure_ (i := 4) (N := (some 21)) (v := .agg (V A5 c5).toArray) (a' := ?_) (bb 8 31) rfl rfl (any_of HT_.out (by kernel_rfl)) (fun _ _ _ h => h) (Or.inl ⟨by rfl, fun w' => yields_build 139 rfl (V A5 c5).toArray (by (try simp only [List.map_toArray, List.map_cons, List.map_nil]); exact HBD.out A5 c5)⟩) ?_ ?_
      rotate_left
      · simp only [Act.put, List.setIfInBounds_toArray, List.set_cons_zero, List.set_cons_succ, i64_w, i32_w]
        rfl
      refine one_ (i := 5) (N := (some 22)) (bb 8 63) rfl rfl (one_of HT_.out (by kernel_rfl)) (by decide) (fun K hK => ?_)
      refine value_ (w1 := ?_) (v := ?_) (by rfl) rfl ?_ ?_
      rotate_left 2
      · go_simp
        constructor
        · rfl
        · rfl
      have HS6 := Aside0.mk (HS5.out.push_alloc (V A5 c5).toArray 139)
      generalize w5.alloc (.cells (V A5 c5).toArray 139) = w6 at HS6 ⊢
      generalize w5.heap.size = gw at HS6 ⊢
      refine hK.out _ _ (HKC.out _ _ HS6.out.up2) (fun hHeld => ?_)
      clear hK K
      refine norm_ (a' := ?_) ?_ ?_
      rotate_left
      · show Act.put _ (some 22) _ = _
        simp only [Act.put, List.setIfInBounds_toArray, List.set_cons_zero, List.set_cons_succ, i64_w, i32_w]
        rfl
      refine pure_ (i := 6) (N := (some 6)) (v := ?_) (a' := ?_) (bb 8 127) rfl rfl (any_of HT_.out (by kernel_rfl)) (fun _ _ _ h => h) (Or.inl ⟨by rfl, ?_⟩) ?_ ?_
      rotate_left
      · intro w'
        go_simp
        with_reducible rfl
      rotate_left
      · simp only [Act.put, List.setIfInBounds_toArray, List.set_cons_zero, List.set_cons_succ, i64_w, i32_w]
        rfl
      refine pure_ (i := 7) (N := (some 7)) (v := ?_) (a' := ?_) (bb 8 255) rfl rfl (any_of HT_.out (by kernel_rfl)) (fun _ _ _ h => h) (Or.inl ⟨by rfl, ?_⟩) ?_ ?_
      rotate_left
      · intro w'
        go_simp
        with_reducible rfl
      rotate_left
      · simp only [Act.put, List.setIfInBounds_toArray, List.set_cons_zero, List.set_cons_succ, i64_w, i32_w]
        rfl
      refine done_ (done_of HT_.out (by kernel_rfl)) ?_
      clear hHeld HT_ HW_
      go_wp2
      go_ret2
      refine ⟨fun _ => ⟨gw, rfl, ?_⟩, fun hx => absurd HR.out hx.2, fun hx => by rw [HL.out] at hx; cases hx⟩
      refine Sep.exI (f := fun q : Option Addr × Nat => [cellsT gw ((newW gj ky l).V q.1 q.2).toArray 139, ownT kRF 69 (.slice q.1 (newW gj ky l).r.length q.2) (newW gj ky l).r]) (A5, c5) ?_
      show Sep w0 w6 (cellsT gw ((newW gj ky l).V A5 c5).toArray 139 :: ownT kRF 69 (.slice A5 l.length c5) l :: cellsT gj (jC gd fr n st nx) 134 :: L)
      rw [HV.out, HM.out]
      exact HS6.out.up2.drop
    · have HR := Aside0.mk hr
      go_wp2
      go_ret2
      exact ⟨fun hx => absurd hx.2 HR.out, fun _ => ⟨rfl, HS3.out.drop⟩, fun hx => by rw [HL.out] at hx; cases hx⟩
  · have hl : refsM l = false := by simpa using hl
    rw [hl] at HLI
    have HL := Aside0.mk hl
    clear hl hC hm h0 h1 h2 h3 h hk HRM
    generalize (nums .u8 ky).toArray = K at HSK HBD ⊢
    go_enter Tryd.func32, Tryd.ntmps32
    go_upto_region 1 with (fail)
    have HS1 := Aside0.mk (HS0.out.push_alloc K 23)
    have HB1 := Aside0.mk (below_alloc (Below.refl w.heap.size w) (.cells K 23))
    generalize w.alloc (.cells K 23) = w1 at HS1 HB1 ⊢
    generalize w.heap.size = g4 at HS1 ⊢
    go_wp2_with (go_at_call 63; (with_reducible refine (HLI.out _ HB1.out).mono ?_); rintro e w2 ⟨rfl, hb⟩; have HS2 := Aside0.mk (HS1.out.step hb); clear hb)
    go_ret2
    exact ⟨fun hx => (by rw [HL.out] at hx; cases hx.1), fun hx => (by rw [HL.out] at hx; cases hx.1), fun _ => ⟨rfl, HS2.out.drop⟩⟩
end Go.Proofs.YtagodmmpkapgnaaDoor.M

namespace Go.Proofs.YtagodmmpkapgnaaDoor.M
open Go.RowKit Go.Maps Go.Proofs.YtagodmmpkapgnaaDoorW.PrintWords Go.Proofs.YtagodmmpkapgnaaDoorW.PrintLast Go.Proofs.YtagodmmpkapgnaaDoorW.PrintMore Go.Proofs.YtagodmmpkapgnaaDoor.Wr Go.Proofs.YtagodmmpkapgnaaDoor.Pl Go.Proofs.YtagodmmpkapgnaaDoor.P Go.Proofs.YtagodmmpkapgnaaDoor.A
set_option linter.unusedVariables false
set_option linter.unusedSimpArgs false
theorem WR.set2 (x : WR) (A : Option Addr) (c : Nat) (v : Bool) : (x.V A c).toArray.setIfInBounds 2 (.bool v) = (WR.V { x with en := v } A c).toArray := by
  unfold WR.V; simp
theorem WR.set3 (x : WR) (A : Option Addr) (c : Nat) (v : Int) : (x.V A c).toArray.setIfInBounds 3 (.int .i64 v) = (WR.V { x with e := v } A c).toArray := by
  unfold WR.V; simp
theorem WR.set1 (x : WR) (A : Option Addr) (c : Nat) (v : Int) : (x.V A c).toArray.setIfInBounds 1 (.int .i64 v) = (WR.V { x with nm := v } A c).toArray := by
  unfold WR.V; simp
theorem WR.set0 (x : WR) (A : Option Addr) (c : Nat) (v : Bool) : (x.V A c).toArray.setIfInBounds 0 (.bool v) = (WR.V { x with wt := v } A c).toArray := by
  unfold WR.V; simp
theorem WR.open_ {w0 w : World} {L : List Th} {gw : Nat} {x : WR} (h : Sep w0 w (wT gw x :: L)) : ∃ A c, Sep w0 w (cellsT gw (x.V A c).toArray 139 :: ownT kRF 69 (.slice A x.r.length c) x.r :: L) := by
  obtain ⟨⟨A, c⟩, h2⟩ := Sep.exO (f := fun q : Option Addr × Nat => [cellsT gw (x.V q.1 q.2).toArray 139, ownT kRF 69 (.slice q.1 x.r.length q.2) x.r]) h
  exact ⟨A, c, h2⟩
theorem WR.close_ {w0 w : World} {L : List Th} {gw : Nat} {x : WR} {A : Option Addr} {c : Nat} (h : Sep w0 w (cellsT gw (x.V A c).toArray 139 :: ownT kRF 69 (.slice A x.r.length c) x.r :: L)) : Sep w0 w (wT gw x :: L) :=
  Sep.exI (f := fun q : Option Addr × Nat => [cellsT gw (x.V q.1 q.2).toArray 139, ownT kRF 69 (.slice q.1 x.r.length q.2) x.r]) (A, c) h
theorem frozen_of {w0 w : World} {L : List Th} {g e : Nat} {cs : Array Value} (h : Sep w0 w (cellsT g cs e :: L)) (i : Nat) : w.frozen? ⟨g, i, none⟩ = false := blk_frozen h.cells.1 i
set_option maxHeartbeats 4000000 in
set_option maxRecDepth 100000 in
theorem Sep.end77 {w0 w : World} {L : List Th} {gw : Nat} {x : WR} {A : Option Addr} {c : Nat} (h : Sep w0 w (cellsT gw (x.V A c).toArray 139 :: L)) (er : Int) :
    Calls Tryd.prog 77 #[.pointer (some ⟨gw, 0, none⟩), .int .i64 er] w fun e w' => e = .returned (.tuple #[.bool true, .int .i64 er]) ∧ Sep w0 w' (cellsT gw (WR.V { x with en := true, e := er } A c).toArray 139 :: L) := by
  have x2 : w.cell? ⟨gw, 2, none⟩ = some (.bool x.en) := cell_at h.cells.1 2 rfl
  have x3 : w.cell? ⟨gw, 3, none⟩ = some (.int .i64 x.e) := cell_at h.cells.1 3 rfl
  have f2 := frozen_of h 2
  have f3 := frozen_of h 3
  have HS := Aside0.mk (show Sep w0 ((w.setCell ⟨gw, 2, none⟩ (.bool true)).setCell ⟨gw, 3, none⟩ (.int .i64 er)) (cellsT gw (WR.V { x with en := true, e := er } A c).toArray 139 :: L) from by
    have h2 := (h.cset 2 (.bool true)).cset 3 (.int .i64 er)
    rwa [WR.set2, WR.set3] at h2)
  clear h
  go_enter Tryd.func77, Tryd.ntmps77
  go_wp2
  go_ret2
  exact ⟨rfl, HS.out⟩
end Go.Proofs.YtagodmmpkapgnaaDoor.M

namespace Go.Proofs.YtagodmmpkapgnaaDoor.M
open Go.RowKit Go.Maps Go.Proofs.YtagodmmpkapgnaaDoorW.PrintWords Go.Proofs.YtagodmmpkapgnaaDoorW.PrintLast Go.Proofs.YtagodmmpkapgnaaDoorW.PrintMore Go.Proofs.YtagodmmpkapgnaaDoor.Wr Go.Proofs.YtagodmmpkapgnaaDoor.Pl Go.Proofs.YtagodmmpkapgnaaDoor.P Go.Proofs.YtagodmmpkapgnaaDoor.A
set_option linter.unusedVariables false
set_option linter.unusedSimpArgs false
set_option maxHeartbeats 8000000 in
set_option maxRecDepth 100000 in
theorem Sep.step_flush {w0 w : World} {L : List Th} {gw gd : Nat} {x : WR} {fr n st nx : Int} {s : DS} (h : Sep w0 w (wT gw x :: cellsT x.gj (jC gd fr n st nx) 134 :: dkT gd s :: L)) (hen : x.en = false) (hwt : x.wt = true) :
    Calls Tryd.prog 33 #[.pointer (some ⟨gw, 0, none⟩)] w fun e w' => e = .returned (.tuple #[.bool true, .int .i64 0]) ∧ Sep w0 w' (wT gw { x with en := true, e := 0 } :: cellsT x.gj (jC gd fr n st nx) 134 :: dkT gd s.flush :: L) := by
  obtain ⟨A, c, h⟩ := WR.open_ h
  have x2 : w.cell? ⟨gw, 2, none⟩ = some (.bool false) := by rw [← hen]; exact cell_at h.cells.1 2 rfl
  have x0 : w.cell? ⟨gw, 0, none⟩ = some (.bool true) := by rw [← hwt]; exact cell_at h.cells.1 0 rfl
  have x4 : w.cell? ⟨gw, 4, none⟩ = some (.pointer (some ⟨x.gj, 0, none⟩)) := cell_at h.cells.1 4 rfl
  have y0 : w.cell? ⟨x.gj, 0, none⟩ = some (.pointer (some ⟨gd, 0, none⟩)) := blk_cell h.up2.cells.1 0
  have HS := Aside0.mk h
  clear h hen hwt
  go_enter Tryd.func33, Tryd.ntmps33
  go_upto_region 5 with (go_at_call 76; (with_reducible refine (HS.out.up3.flush).mono ?_); rintro e w2 ⟨⟨v2, rfl⟩, h2⟩; have HS2 := Aside0.mk h2; clear h2)
  clear x2 x0 x4 y0 HS
  go_wp2_with (go_at_call 77; (with_reducible refine (HS2.out.up1.end77 0).mono ?_); rintro e w3 ⟨rfl, h3⟩; have HS3 := Aside0.mk h3; clear h3)
  go_ret2
  exact ⟨rfl, WR.close_ (x := { x with en := true, e := 0 }) HS3.out.up1.down3⟩
end Go.Proofs.YtagodmmpkapgnaaDoor.M

namespace Go.Proofs.YtagodmmpkapgnaaDoor.M
open Go.RowKit Go.Maps Go.Proofs.YtagodmmpkapgnaaDoorW.PrintWords Go.Proofs.YtagodmmpkapgnaaDoorW.PrintLast Go.Proofs.YtagodmmpkapgnaaDoorW.PrintMore Go.Proofs.YtagodmmpkapgnaaDoor.Wr Go.Proofs.YtagodmmpkapgnaaDoor.Pl Go.Proofs.YtagodmmpkapgnaaDoor.P Go.Proofs.YtagodmmpkapgnaaDoor.A
set_option linter.unusedVariables false
set_option linter.unusedSimpArgs false
def st10_T : Bool × List (List Nat × List Nat) := (true, [([], []), ([0], [0]), ([1], [1]), ([2], [2]), ([3], [3]), ([], []), ([5], [5]), ([6], [6]), ([7], [7]), ([], []), ([9], [9]), ([10], [10]), ([11], [11]), ([4, 8, 12], [4, 8, 12]), ([13], [13]), ([14], [14]), ([15], [15]), ([15], [15]), ([16, 14, 0, 1, 2, 3, 4, 5, 6, 7, 8, 9, 10, 11, 12, 13, 14, 15, 16], [16]), ([17, 18, 0, 1, 2, 3, 4, 5, 6, 7, 8, 9, 10, 11, 12, 13, 14, 15, 16, 17, 18], [17])])
def st10_B : List Nat := [0, 1, 3, 7, 15, 0, 32, 96, 224, 0, 512, 1536, 3584, 8191, 16383, 32767, 65535, 65535, 131071, 524287]
theorem st10_tab : rtab .any (opsOf Tryd.f33 10) = st10_T := by kernel_rfl
theorem st10_bits : waitsOk st10_T.2 st10_B = true := by kernel_rfl
def st11_T : Bool × List (List Nat × List Nat) := (true, [([], []), ([0], [0]), ([1], [1]), ([2], [2]), ([3], [3]), ([4], [4]), ([5], [5]), ([], []), ([7], [7]), ([8], [8]), ([9], [9]), ([10], [10]), ([11], [11]), ([12], [12]), ([], []), ([14], [14]), ([15], [15]), ([16], [16]), ([17], [17]), ([], []), ([19], [19]), ([20], [20]), ([21], [21]), ([22], [22]), ([23], [23]), ([24], [24]), ([18, 25], [18, 25]), ([13, 26], [13, 26]), ([], []), ([6, 27, 28], [6, 27, 28])])
def st11_B : List Nat := [0, 1, 3, 7, 15, 31, 63, 0, 128, 384, 896, 1920, 3968, 8064, 0, 16384, 49152, 114688, 245760, 0, 524288, 1572864, 3670016, 7864320, 16252928, 33030144, 67092480, 134217600, 0, 536870911]
theorem st11_tab : rtab .any (opsOf Tryd.f33 11) = st11_T := by kernel_rfl
theorem st11_bits : waitsOk st11_T.2 st11_B = true := by kernel_rfl
theorem WR.V37 {x : WR} (h : x.p.length = 32) (A : Option Addr) (c : Nat) : (x.V A c)[37]? = some (.slice A x.r.length c) := by
  unfold WR.V
  rw [List.getElem?_append_right (by simp)]
  rw [List.getElem?_append_right (by rw [nums_length, h]; simp), nums_length, h]
  rfl
theorem WR.seg5 {x : WR} (h : x.p.length = 32) (A : Option Addr) (c : Nat) : ((x.V A c).drop 5).take (nums .u8 x.p).length = nums .u8 x.p := by
  unfold WR.V
  rw [List.drop_append_of_le_length (by simp)]
  show ([] ++ (nums .u8 x.p ++ [Value.slice A x.r.length c])).take _ = _
  rw [List.nil_append, List.take_append_of_le_length (Nat.le_refl _), List.take_length]
set_option maxHeartbeats 16000000 in
set_option maxRecDepth 100000 in
theorem Sep.step_yes {w0 w : World} {L : List Th} {gw gd : Nat} {x : WR} {fr n st nx : Nat} {s : DS} (h : Sep w0 w (wT gw x :: cellsT x.gj (jC gd fr n st nx) 134 :: dkT gd s :: L)) (hH : Wr.Half w0) (hen : x.en = false) (hwt : x.wt = false) (hx : (⟨nx, x.p, x.r⟩ : RC).Ok) (hl : refsM x.r = true) (h1 : st ≤ 1099511627777) (h3 : nx ≤ 1099511627777) (hr : roomE n st nx = 0) (hn : 1 ≤ n) (hfn : fr + n ≤ s.n) (hc : s.c < 1073741824) :
    Calls Tryd.prog 33 #[.pointer (some ⟨gw, 0, none⟩)] w fun e w' => e = .returned (.tuple #[.bool false, .int .i64 0]) ∧ Sep w0 w' (wT gw { x with nm := nx, wt := true } :: cellsT x.gj (jC gd fr n st ((nx + 1 : Nat) : Int)) 134 :: dkT gd (s.put (fr + nx % n) (encJ ⟨nx, x.p, x.r⟩)) :: L) := by
  obtain ⟨A, c, h⟩ := WR.open_ h
  have hnx : (nx : Int) ≤ 1099511627776 := by
    unfold roomE at hr
    split at hr
    · cases hr
    · omega
  have HMay := Aside0.mk ((err_iff (⟨nx, x.p, x.r⟩ : RC)).1 (by unfold errJ; rw [if_neg (by simp only; omega), if_pos hl]))
  have HRM := Aside0.mk (by have h := room_calls h.up2.cells.1 (by omega) (by omega) (by omega) (by omega); rw [hr] at h; exact h)
  have x2 : w.cell? ⟨gw, 2, none⟩ = some (.bool false) := by rw [← hen]; exact cell_at h.cells.1 2 rfl
  have x0 : w.cell? ⟨gw, 0, none⟩ = some (.bool false) := by rw [← hwt]; exact cell_at h.cells.1 0 rfl
  have x4 : w.cell? ⟨gw, 4, none⟩ = some (.pointer (some ⟨x.gj, 0, none⟩)) := cell_at h.cells.1 4 rfl
  have HOK := Aside0.mk hx
  have hk : x.p.length = 32 := hx.k
  have hmod : ((nx : Int)).tmod (n : Int) = ((nx % n : Nat) : Int) := tmod_nat nx n
  have hq0 : nx % n < n := Nat.mod_lt _ (by omega)
  generalize nx % n = q at hmod hq0 ⊢
  have hsn := h.up3.dk_n
  have hq1 : (fr : Int) + (q : Int) ≤ 65536 := by omega
  have hnz : ¬ n = 0 := by omega
  have HW64 := Aside0.mk (show Go.RowKit.wrap64 ((fr : Int) + (q : Int)) = (fr : Int) + (q : Int) from w64 (by omega) (by omega))
  have HB5 := Aside0.mk (encJ_len (s := (⟨nx, x.p, x.r⟩ : RC)) hx HMay.out.r8)
  have HWR := Aside0.mk (fun (W : World) (A5 : Option Addr) (c5 : Nat) (h : Sep w0 W (ownT (Kd.int .u8) 5 (.slice A5 512 c5) (encJ ⟨nx, x.p, x.r⟩) :: cellsT gw (WR.V { x with nm := nx } A c).toArray 139 :: ownT kRF 69 (.slice A x.r.length c) x.r :: cellsT x.gj (jC gd fr n st nx) 134 :: dkT gd s :: L)) => (show Calls Tryd.prog 78 #[.pointer (some ⟨gd, 0, none⟩), .int .i64 ((fr : Int) + (q : Int)), .slice A5 512 c5] W (fun e w' => e = .returned (.int .i64 0) ∧ Sep w0 w' (ownT (Kd.int .u8) 5 (.slice A5 512 c5) (encJ ⟨nx, x.p, x.r⟩) :: dkT gd (s.put (fr + q) (encJ ⟨nx, x.p, x.r⟩)) :: cellsT gw (WR.V { x with nm := nx } A c).toArray 139 :: ownT kRF 69 (.slice A x.r.length c) x.r :: cellsT x.gj (jC gd fr n st nx) 134 :: L)) from by
    have h2 := Sep.write_own (.slice A5 512 c5) (encJ ⟨nx, x.p, x.r⟩) h.up4.up1 (fr + q) (by omega) hc HB5.out
    rw [Int.natCast_add] at h2
    exact h2))
  have HHS := Aside0.mk (fun (W : World) (M : List Th) (h : Sep w0 W (cellsT gw (WR.V { x with nm := nx } A c).toArray 139 :: M)) => (show W.cell? ⟨gw, 1, none⟩ = some (.int .i64 (nx : Int)) ∧ (∀ j v, (nums .u8 x.p).toArray.toList[j]? = some v → W.cell? ((⟨gw, 5, none⟩ : Addr).add j) = some v) ∧ W.cell? ⟨gw, 37, none⟩ = some (.slice A x.r.length c) from
    ⟨cell_at h.cells.1 1 rfl, fun j v hv => seg_at h.cells.1 5 (nums .u8 x.p) (WR.seg5 (x := { x with nm := nx }) hk A c) j v (by simpa using hv), cell_at h.cells.1 37 (WR.V37 (x := { x with nm := nx }) hk A c)⟩))
  have HHT := Aside0.mk (fun (W : World) (t : Th) (M : List Th) (h : Sep w0 W (t :: cellsT gw (WR.V { x with nm := nx } A c).toArray 139 :: ownT kRF 69 (.slice A x.r.length c) x.r :: cellsT x.gj (jC gd fr n st nx) 134 :: M)) => (show W.cell? ⟨gw, 4, none⟩ = some (.pointer (some ⟨x.gj, 0, none⟩)) ∧ W.cell? ⟨gw, 1, none⟩ = some (.int .i64 (nx : Int)) ∧ W.cell? ⟨x.gj, 0, none⟩ = some (.pointer (some ⟨gd, 0, none⟩)) ∧ W.cell? ⟨x.gj, 1, none⟩ = some (.int .i64 (fr : Int)) ∧ W.cell? ⟨x.gj, 2, none⟩ = some (.int .i64 (n : Int)) from
    ⟨cell_at h.up1.cells.1 4 rfl, cell_at h.up1.cells.1 1 rfl, blk_cell h.up3.cells.1 0, blk_cell h.up3.cells.1 1, blk_cell h.up3.cells.1 2⟩))
  have HEN := Aside0.mk (fun (W : World) (M : List Th) (h : Sep w0 W (cellsT gw (WR.V { x with nm := nx } A c).toArray 139 :: ownT kRF 69 (.slice A x.r.length c) x.r :: M)) => encode_yes ⟨nx, x.p, x.r⟩ hx HMay.out A c W (hH.below h.below) h.up1.own_C.1)
  have HSK := Aside0.mk (show (Tryd.prog.info? 23).map (·.size) = some (nums .u8 x.p).toArray.size from size23 (by simpa [nums_length] using hk))
  have HBD := Aside0.mk (built26f nx x.p hk x.r A c x.r.length rfl)
  generalize (nums .u8 x.p).toArray = K at HHS HSK HBD
  generalize ((⟨nx, x.p, x.r⟩ : RC).V A c).toArray = V at HEN HBD
  have HM := Aside0.mk (show (WR.V { x with nm := nx } A c).toArray = (WR.V { x with nm := nx } A c).toArray ∧ x.r.length = x.r.length from ⟨rfl, rfl⟩)
  have HS := Aside0.mk h
  clear h hen hwt h1 h3 hr hx hn hfn hc
  go_enter Tryd.func33, Tryd.ntmps33
  go_upto_region 9 with (go_at_call 74; (with_reducible refine HRM.out.mono ?_); rintro e w2 ⟨rfl, hb⟩; have HS2 := Aside0.mk (HS.out.step hb); clear hb)
  clear x2 x0 x4 HS HRM
  have y4 : w2.cell? ⟨gw, 4, none⟩ = some (.pointer (some ⟨x.gj, 0, none⟩)) := cell_at HS2.out.cells.1 4 rfl
  have y1 : w2.cell? ⟨gw, 1, none⟩ = some (.int .i64 x.nm) := cell_at HS2.out.cells.1 1 rfl
  have f1 := frozen_of HS2.out 1
  have z4 : w2.cell? ⟨x.gj, 4, none⟩ = some (.int .i64 (nx : Int)) := blk_cell HS2.out.up2.cells.1 4
  go_upto_region 10 with (fail)
  have HS9 := Aside0.mk (show Sep w0 (w2.setCell ⟨gw, 1, none⟩ (.int .i64 (nx : Int))) (cellsT gw (WR.V { x with nm := nx } A c).toArray 139 :: ownT kRF 69 (.slice A x.r.length c) x.r :: cellsT x.gj (jC gd fr n st nx) 134 :: dkT gd s :: L) from by
    have h := HS2.out.cset 1 (.int .i64 (nx : Int))
    rwa [WR.set1] at h)
  clear HS2 y4 y1 f1 z4
  generalize w2.setCell ⟨gw, 1, none⟩ (.int .i64 (nx : Int)) = w9 at HS9 ⊢
  have HSx := Aside0.mk (HS9.out.step (below_drew1 (Below.refl w9.heap.size w9)))
  clear HS9
  obtain ⟨m, hm⟩ : ∃ m, x.r.length = m := ⟨_, rfl⟩
  rw [hm] at HHS HHT HEN HWR HBD HSx
  have HMM := Aside0.mk hm
  clear hm HM
  refine start_ (n := 20) (S := fun W => W.cell? ⟨gw, 1, none⟩ = some (.int .i64 (nx : Int)) ∧ (∀ j v, K.toList[j]? = some v → W.cell? ((⟨gw, 5, none⟩ : Addr).add j) = some v) ∧ W.cell? ⟨gw, 37, none⟩ = some (.slice A m c)) (ds := []) (bb 20 0) (by kernel_rfl) rfl rfl (HHS.out _ _ HSx.out) (fun hHeld => ?_); refine with_tabW st10_tab st10_bits (fun HT_ HW_ => ?_)
  generalize w9.drew = wd at hHeld HSx ⊢
  refine pure_ (i := 0) (N := (some 64)) (v := ?_) (a' := ?_) (bb 20 1) rfl rfl (any_of HT_.out (by kernel_rfl)) (fun _ _ _ h => h) (Or.inl ⟨by rfl, ?_⟩) ?_ ?_
  rotate_left
  · intro w'
    go_simp
    with_reducible rfl
  rotate_left
  · simp only [Act.put, List.setIfInBounds_toArray, List.set_cons_zero, List.set_cons_succ, i64_w, i32_w]
    rfl
  refine pure_ (i := 1) (N := (some 65)) (v := ?_) (a' := ?_) (bb 20 3) rfl rfl (any_of HT_.out (by kernel_rfl)) (fun _ _ _ h => h) (Or.inl ⟨by rfl, ?_⟩) ?_ ?_
  rotate_left
  · intro w'
    go_simp
    with_reducible rfl
  rotate_left
  · simp only [Act.put, List.setIfInBounds_toArray, List.set_cons_zero, List.set_cons_succ, i64_w, i32_w]
    rfl
  refine pure_ (i := 2) (N := (some 66)) (v := ?_) (a' := ?_) (bb 20 7) rfl rfl (any_of HT_.out (by kernel_rfl)) (fun _ _ _ h => h) (Or.inl ⟨by rfl, ?_⟩) ?_ ?_
  rotate_left
  · intro w'
    go_simp
    with_reducible rfl
  rotate_left
  · simp only [Act.put, List.setIfInBounds_toArray, List.set_cons_zero, List.set_cons_succ, i64_w, i32_w]
    rfl
  refine pure_ (i := 3) (N := (some 67)) (v := ?_) (a' := ?_) (bb 20 15) rfl rfl (any_of HT_.out (by kernel_rfl)) (fun _ _ _ h => h) (Or.inl ⟨by rfl, ?_⟩) ?_ ?_
  rotate_left
  · intro w'
    go_simp
    with_reducible rfl
  rotate_left
  · simp only [Act.put, List.setIfInBounds_toArray, List.set_cons_zero, List.set_cons_succ, i64_w, i32_w]
    rfl
  refine take_ (i := 4) (N := (some 68)) (v := ?_) (a' := ?_) (bb 20 31) rfl rfl (take_ofW HT_.out HW_.out (by kernel_rfl)) (fun _ _ _ h => h) (Or.inl ⟨by rfl, ?_⟩) hHeld ?_ ?_
  rotate_left
  · intro w' s0
    (try dsimp only at s0)
    go_simp
    with_reducible rfl
  rotate_left
  · simp only [Act.put, List.setIfInBounds_toArray, List.set_cons_zero, List.set_cons_succ, i64_w, i32_w]
    rfl
  refine pure_ (i := 5) (N := (some 69)) (v := ?_) (a' := ?_) (bb 20 63) rfl rfl (any_of HT_.out (by kernel_rfl)) (fun _ _ _ h => h) (Or.inl ⟨by rfl, ?_⟩) ?_ ?_
  rotate_left
  · intro w'
    go_simp
    with_reducible rfl
  rotate_left
  · simp only [Act.put, List.setIfInBounds_toArray, List.set_cons_zero, List.set_cons_succ, i64_w, i32_w]
    rfl
  refine pure_ (i := 6) (N := (some 70)) (v := ?_) (a' := ?_) (bb 20 127) rfl rfl (any_of HT_.out (by kernel_rfl)) (fun _ _ _ h => h) (Or.inl ⟨by rfl, ?_⟩) ?_ ?_
  rotate_left
  · intro w'
    go_simp
    with_reducible rfl
  rotate_left
  · simp only [Act.put, List.setIfInBounds_toArray, List.set_cons_zero, List.set_cons_succ, i64_w, i32_w]
    rfl
  refine pure_ (i := 7) (N := (some 71)) (v := ?_) (a' := ?_) (bb 20 255) rfl rfl (any_of HT_.out (by kernel_rfl)) (fun _ _ _ h => h) (Or.inl ⟨by rfl, ?_⟩) ?_ ?_
  rotate_left
  · intro w'
    go_simp
    with_reducible rfl
  rotate_left
  · simp only [Act.put, List.setIfInBounds_toArray, List.set_cons_zero, List.set_cons_succ, i64_w, i32_w]
    rfl
  refine take_ (i := 8) (N := (some 72)) (v := .agg K) (a' := ?_) (bb 20 511) rfl rfl (take_ofW HT_.out HW_.out (by kernel_rfl)) (fun _ _ _ h => h) (Or.inl ⟨by rfl, fun w' s0 => yields_ld 23 _ rfl ⟨gw, 5, none⟩ rfl K _ s0.2.1 Tryd.underlying23 rfl HSK.out⟩) hHeld ?_ ?_
  rotate_left
  · simp only [Act.put, List.setIfInBounds_toArray, List.set_cons_zero, List.set_cons_succ, i64_w, i32_w]
    rfl
  refine pure_ (i := 9) (N := (some 73)) (v := ?_) (a' := ?_) (bb 20 1023) rfl rfl (any_of HT_.out (by kernel_rfl)) (fun _ _ _ h => h) (Or.inl ⟨by rfl, ?_⟩) ?_ ?_
  rotate_left
  · intro w'
    go_simp
    with_reducible rfl
  rotate_left
  · simp only [Act.put, List.setIfInBounds_toArray, List.set_cons_zero, List.set_cons_succ, i64_w, i32_w]
    rfl
  refine pure_ (i := 10) (N := (some 74)) (v := ?_) (a' := ?_) (bb 20 2047) rfl rfl (any_of HT_.out (by kernel_rfl)) (fun _ _ _ h => h) (Or.inl ⟨by rfl, ?_⟩) ?_ ?_
  rotate_left
  · intro w'
    go_simp
    with_reducible rfl
  rotate_left
  · simp only [Act.put, List.setIfInBounds_toArray, List.set_cons_zero, List.set_cons_succ, i64_w, i32_w]
    rfl
  refine pure_ (i := 11) (N := (some 75)) (v := ?_) (a' := ?_) (bb 20 4095) rfl rfl (any_of HT_.out (by kernel_rfl)) (fun _ _ _ h => h) (Or.inl ⟨by rfl, ?_⟩) ?_ ?_
  rotate_left
  · intro w'
    go_simp
    with_reducible rfl
  rotate_left
  · simp only [Act.put, List.setIfInBounds_toArray, List.set_cons_zero, List.set_cons_succ, i64_w, i32_w]
    rfl
  refine take_ (i := 12) (N := (some 76)) (v := ?_) (a' := ?_) (bb 20 8191) rfl rfl (take_ofW HT_.out HW_.out (by kernel_rfl)) (fun _ _ _ h => h) (Or.inl ⟨by rfl, ?_⟩) hHeld ?_ ?_
  rotate_left
  · intro w' s0
    (try dsimp only at s0)
    go_simp
    with_reducible rfl
  rotate_left
  · simp only [Act.put, List.setIfInBounds_toArray, List.set_cons_zero, List.set_cons_succ, i64_w, i32_w]
    rfl
  refine pure_ (i := 13) (N := (some 77)) (v := .agg V) (a' := ?_) (bb 20 16383) rfl rfl (any_of HT_.out (by kernel_rfl)) (fun _ _ _ h => h) (Or.inl ⟨by rfl, fun w' => yields_build 26 rfl V (by (try simp only [List.map_toArray, List.map_cons, List.map_nil]); exact HBD.out)⟩) ?_ ?_
  rotate_left
  · simp only [Act.put, List.setIfInBounds_toArray, List.set_cons_zero, List.set_cons_succ, i64_w, i32_w]
    rfl
  refine one_ (i := 14) (N := (some 78)) (bb 20 32767) rfl rfl (one_of HT_.out (by kernel_rfl)) (by decide) (fun K hK => ?_)
  refine goes_ Tryd.func17 (by kernel_rfl) rfl #[.agg V] (by rfl) rfl rfl (by (try simp only [List.map_toArray, List.map_cons, List.map_nil]); first | done | rfl) ?_
  with_reducible refine (HEN.out _ _ HSx.out).mono ?_
  rintro e w5 ⟨A5, c5, rfl, h5⟩
  have HS5 := Aside0.mk (HSx.out.then_ h5)
  clear h5
  refine ⟨_, rfl, ?_⟩
  refine hK.out _ _ (HHS.out _ _ HS5.out.up1) (fun hHeld => ?_)
  clear hK K
  refine norm_ (a' := ?_) ?_ ?_
  rotate_left
  · show Act.put _ (some 78) _ = _
    simp only [Act.put, List.setIfInBounds_toArray, List.set_cons_zero, List.set_cons_succ, i64_w, i32_w]
    rfl
  refine pure_ (i := 15) (N := (some 63)) (v := ?_) (a' := ?_) (bb 20 65535) rfl rfl (any_of HT_.out (by kernel_rfl)) (fun _ _ _ h => h) (Or.inl ⟨by rfl, ?_⟩) ?_ ?_
  rotate_left
  · intro w'
    go_simp
    with_reducible rfl
  rotate_left
  · simp only [Act.put, List.setIfInBounds_toArray, List.set_cons_zero, List.set_cons_succ, i64_w, i32_w]
    rfl
  refine pure_ (i := 16) (N := (some 79)) (v := ?_) (a' := ?_) (bb 20 131071) rfl rfl (any_of HT_.out (by kernel_rfl)) (fun _ _ _ h => h) (Or.inl ⟨by rfl, ?_⟩) ?_ ?_
  rotate_left
  · intro w'
    go_simp
    with_reducible rfl
  rotate_left
  · simp only [Act.put, List.setIfInBounds_toArray, List.set_cons_zero, List.set_cons_succ, i64_w, i32_w]
    rfl
  refine pure_ (i := 17) (N := (some 80)) (v := ?_) (a' := ?_) (bb 20 262143) rfl rfl (any_of HT_.out (by kernel_rfl)) (fun _ _ _ h => h) (Or.inl ⟨by rfl, ?_⟩) ?_ ?_
  rotate_left
  · intro w'
    go_simp
    with_reducible rfl
  rotate_left
  · simp only [Act.put, List.setIfInBounds_toArray, List.set_cons_zero, List.set_cons_succ, i64_w, i32_w]
    rfl
  refine pure_ (i := 18) (N := (some 5)) (v := ?_) (a' := ?_) (bb 20 524287) rfl rfl (any_of HT_.out (by kernel_rfl)) (fun _ _ _ h => h) (Or.inl ⟨by rfl, ?_⟩) ?_ ?_
  rotate_left
  · intro w'
    go_simp
    with_reducible rfl
  rotate_left
  · simp only [Act.put, List.setIfInBounds_toArray, List.set_cons_zero, List.set_cons_succ, i64_w, i32_w]
    rfl
  refine pure_ (i := 19) (N := (some 6)) (v := ?_) (a' := ?_) (bb 20 1048575) rfl rfl (any_of HT_.out (by kernel_rfl)) (fun _ _ _ h => h) (Or.inl ⟨by rfl, ?_⟩) ?_ ?_
  rotate_left
  · intro w'
    go_simp
    with_reducible rfl
  rotate_left
  · simp only [Act.put, List.setIfInBounds_toArray, List.set_cons_zero, List.set_cons_succ, i64_w, i32_w]
    rfl
  refine done_ (done_of HT_.out (by kernel_rfl)) ?_
  clear hHeld HT_ HW_ HSx
  go_upto_region 11 with (fail)
  have HSz := Aside0.mk (HS5.out.step (below_drew1 (Below.refl w5.heap.size w5)))
  clear HS5
  refine start_ (n := 30) (S := fun W => W.cell? ⟨gw, 4, none⟩ = some (.pointer (some ⟨x.gj, 0, none⟩)) ∧ W.cell? ⟨gw, 1, none⟩ = some (.int .i64 (nx : Int)) ∧ W.cell? ⟨x.gj, 0, none⟩ = some (.pointer (some ⟨gd, 0, none⟩)) ∧ W.cell? ⟨x.gj, 1, none⟩ = some (.int .i64 (fr : Int)) ∧ W.cell? ⟨x.gj, 2, none⟩ = some (.int .i64 (n : Int))) (ds := [29]) (bb 30 0) (by kernel_rfl) rfl rfl (HHT.out _ _ _ HSz.out) (fun hHeld => ?_); refine with_tabW st11_tab st11_bits (fun HT_ HW_ => ?_)
  generalize w5.drew = we at hHeld HSz ⊢
  refine pure_ (i := 0) (N := (some 81)) (v := ?_) (a' := ?_) (bb 30 1) rfl rfl (any_of HT_.out (by kernel_rfl)) (fun _ _ _ h => h) (Or.inl ⟨by rfl, ?_⟩) ?_ ?_
  rotate_left
  · intro w'
    go_simp
    with_reducible rfl
  rotate_left
  · simp only [Act.put, List.setIfInBounds_toArray, List.set_cons_zero, List.set_cons_succ, i64_w, i32_w]
    rfl
  refine pure_ (i := 1) (N := (some 82)) (v := ?_) (a' := ?_) (bb 30 3) rfl rfl (any_of HT_.out (by kernel_rfl)) (fun _ _ _ h => h) (Or.inl ⟨by rfl, ?_⟩) ?_ ?_
  rotate_left
  · intro w'
    go_simp
    with_reducible rfl
  rotate_left
  · simp only [Act.put, List.setIfInBounds_toArray, List.set_cons_zero, List.set_cons_succ, i64_w, i32_w]
    rfl
  refine pure_ (i := 2) (N := (some 83)) (v := ?_) (a' := ?_) (bb 30 7) rfl rfl (any_of HT_.out (by kernel_rfl)) (fun _ _ _ h => h) (Or.inl ⟨by rfl, ?_⟩) ?_ ?_
  rotate_left
  · intro w'
    go_simp
    with_reducible rfl
  rotate_left
  · simp only [Act.put, List.setIfInBounds_toArray, List.set_cons_zero, List.set_cons_succ, i64_w, i32_w]
    rfl
  refine take_ (i := 3) (N := (some 84)) (v := ?_) (a' := ?_) (bb 30 15) rfl rfl (take_ofW HT_.out HW_.out (by kernel_rfl)) (fun _ _ _ h => h) (Or.inl ⟨by rfl, ?_⟩) hHeld ?_ ?_
  rotate_left
  · intro w' s0
    (try dsimp only at s0)
    go_simp
    with_reducible rfl
  rotate_left
  · simp only [Act.put, List.setIfInBounds_toArray, List.set_cons_zero, List.set_cons_succ, i64_w, i32_w]
    rfl
  refine pure_ (i := 4) (N := (some 85)) (v := ?_) (a' := ?_) (bb 30 31) rfl rfl (any_of HT_.out (by kernel_rfl)) (fun _ _ _ h => h) (Or.inl ⟨by rfl, ?_⟩) ?_ ?_
  rotate_left
  · intro w'
    go_simp
    with_reducible rfl
  rotate_left
  · simp only [Act.put, List.setIfInBounds_toArray, List.set_cons_zero, List.set_cons_succ, i64_w, i32_w]
    rfl
  refine pure_ (i := 5) (N := (some 86)) (v := ?_) (a' := ?_) (bb 30 63) rfl rfl (any_of HT_.out (by kernel_rfl)) (fun _ _ _ h => h) (Or.inl ⟨by rfl, ?_⟩) ?_ ?_
  rotate_left
  · intro w'
    go_simp
    with_reducible rfl
  rotate_left
  · simp only [Act.put, List.setIfInBounds_toArray, List.set_cons_zero, List.set_cons_succ, i64_w, i32_w]
    rfl
  refine take_ (i := 6) (N := (some 87)) (v := ?_) (a' := ?_) (bb 30 127) rfl rfl (take_ofW HT_.out HW_.out (by kernel_rfl)) (fun _ _ _ h => h) (Or.inl ⟨by rfl, ?_⟩) hHeld ?_ ?_
  rotate_left
  · intro w' s0
    (try dsimp only at s0)
    go_simp
    with_reducible rfl
  rotate_left
  · simp only [Act.put, List.setIfInBounds_toArray, List.set_cons_zero, List.set_cons_succ, i64_w, i32_w]
    rfl
  refine pure_ (i := 7) (N := (some 88)) (v := ?_) (a' := ?_) (bb 30 255) rfl rfl (any_of HT_.out (by kernel_rfl)) (fun _ _ _ h => h) (Or.inl ⟨by rfl, ?_⟩) ?_ ?_
  rotate_left
  · intro w'
    go_simp
    with_reducible rfl
  rotate_left
  · simp only [Act.put, List.setIfInBounds_toArray, List.set_cons_zero, List.set_cons_succ, i64_w, i32_w]
    rfl
  refine pure_ (i := 8) (N := (some 89)) (v := ?_) (a' := ?_) (bb 30 511) rfl rfl (any_of HT_.out (by kernel_rfl)) (fun _ _ _ h => h) (Or.inl ⟨by rfl, ?_⟩) ?_ ?_
  rotate_left
  · intro w'
    go_simp
    with_reducible rfl
  rotate_left
  · simp only [Act.put, List.setIfInBounds_toArray, List.set_cons_zero, List.set_cons_succ, i64_w, i32_w]
    rfl
  refine pure_ (i := 9) (N := (some 90)) (v := ?_) (a' := ?_) (bb 30 1023) rfl rfl (any_of HT_.out (by kernel_rfl)) (fun _ _ _ h => h) (Or.inl ⟨by rfl, ?_⟩) ?_ ?_
  rotate_left
  · intro w'
    go_simp
    with_reducible rfl
  rotate_left
  · simp only [Act.put, List.setIfInBounds_toArray, List.set_cons_zero, List.set_cons_succ, i64_w, i32_w]
    rfl
  refine take_ (i := 10) (N := (some 91)) (v := ?_) (a' := ?_) (bb 30 2047) rfl rfl (take_ofW HT_.out HW_.out (by kernel_rfl)) (fun _ _ _ h => h) (Or.inl ⟨by rfl, ?_⟩) hHeld ?_ ?_
  rotate_left
  · intro w' s0
    (try dsimp only at s0)
    go_simp
    with_reducible rfl
  rotate_left
  · simp only [Act.put, List.setIfInBounds_toArray, List.set_cons_zero, List.set_cons_succ, i64_w, i32_w]
    rfl
  refine pure_ (i := 11) (N := (some 92)) (v := ?_) (a' := ?_) (bb 30 4095) rfl rfl (any_of HT_.out (by kernel_rfl)) (fun _ _ _ h => h) (Or.inl ⟨by rfl, ?_⟩) ?_ ?_
  rotate_left
  · intro w'
    go_simp
    with_reducible rfl
  rotate_left
  · simp only [Act.put, List.setIfInBounds_toArray, List.set_cons_zero, List.set_cons_succ, i64_w, i32_w]
    rfl
  refine pure_ (i := 12) (N := (some 93)) (v := ?_) (a' := ?_) (bb 30 8191) rfl rfl (any_of HT_.out (by kernel_rfl)) (fun _ _ _ h => h) (Or.inl ⟨by rfl, ?_⟩) ?_ ?_
  rotate_left
  · intro w'
    go_simp
    with_reducible rfl
  rotate_left
  · simp only [Act.put, List.setIfInBounds_toArray, List.set_cons_zero, List.set_cons_succ, i64_w, i32_w]
    rfl
  refine take_ (i := 13) (N := (some 94)) (v := ?_) (a' := ?_) (bb 30 16383) rfl rfl (take_ofW HT_.out HW_.out (by kernel_rfl)) (fun _ _ _ h => h) (Or.inl ⟨by rfl, ?_⟩) hHeld ?_ ?_
  rotate_left
  · intro w' s0
    (try dsimp only at s0)
    go_simp
    with_reducible rfl
  rotate_left
  · simp only [Act.put, List.setIfInBounds_toArray, List.set_cons_zero, List.set_cons_succ, i64_w, i32_w]
    rfl
  refine pure_ (i := 14) (N := (some 95)) (v := ?_) (a' := ?_) (bb 30 32767) rfl rfl (any_of HT_.out (by kernel_rfl)) (fun _ _ _ h => h) (Or.inl ⟨by rfl, ?_⟩) ?_ ?_
  rotate_left
  · intro w'
    go_simp
    with_reducible rfl
  rotate_left
  · simp only [Act.put, List.setIfInBounds_toArray, List.set_cons_zero, List.set_cons_succ, i64_w, i32_w]
    rfl
  refine pure_ (i := 15) (N := (some 96)) (v := ?_) (a' := ?_) (bb 30 65535) rfl rfl (any_of HT_.out (by kernel_rfl)) (fun _ _ _ h => h) (Or.inl ⟨by rfl, ?_⟩) ?_ ?_
  rotate_left
  · intro w'
    go_simp
    with_reducible rfl
  rotate_left
  · simp only [Act.put, List.setIfInBounds_toArray, List.set_cons_zero, List.set_cons_succ, i64_w, i32_w]
    rfl
  refine pure_ (i := 16) (N := (some 97)) (v := ?_) (a' := ?_) (bb 30 131071) rfl rfl (any_of HT_.out (by kernel_rfl)) (fun _ _ _ h => h) (Or.inl ⟨by rfl, ?_⟩) ?_ ?_
  rotate_left
  · intro w'
    go_simp
    with_reducible rfl
  rotate_left
  · simp only [Act.put, List.setIfInBounds_toArray, List.set_cons_zero, List.set_cons_succ, i64_w, i32_w]
    rfl
  refine pure_ (i := 17) (N := (some 98)) (v := ?_) (a' := ?_) (bb 30 262143) rfl rfl (any_of HT_.out (by kernel_rfl)) (fun _ _ _ h => h) (Or.inl ⟨by rfl, ?_⟩) ?_ ?_
  rotate_left
  · intro w'
    go_simp
    with_reducible rfl
  rotate_left
  · simp only [Act.put, List.setIfInBounds_toArray, List.set_cons_zero, List.set_cons_succ, i64_w, i32_w]
    rfl
  refine take_ (i := 18) (N := (some 99)) (v := ?_) (a' := ?_) (bb 30 524287) rfl rfl (take_ofW HT_.out HW_.out (by kernel_rfl)) (fun _ _ _ h => h) (Or.inl ⟨by rfl, ?_⟩) hHeld ?_ ?_
  rotate_left
  · intro w' s0
    (try dsimp only at s0)
    go_simp
    with_reducible rfl
  rotate_left
  · simp only [Act.put, List.setIfInBounds_toArray, List.set_cons_zero, List.set_cons_succ, i64_w, i32_w]
    rfl
  refine pure_ (i := 19) (N := (some 100)) (v := ?_) (a' := ?_) (bb 30 1048575) rfl rfl (any_of HT_.out (by kernel_rfl)) (fun _ _ _ h => h) (Or.inl ⟨by rfl, ?_⟩) ?_ ?_
  rotate_left
  · intro w'
    go_simp
    with_reducible rfl
  rotate_left
  · simp only [Act.put, List.setIfInBounds_toArray, List.set_cons_zero, List.set_cons_succ, i64_w, i32_w]
    rfl
  refine pure_ (i := 20) (N := (some 101)) (v := ?_) (a' := ?_) (bb 30 2097151) rfl rfl (any_of HT_.out (by kernel_rfl)) (fun _ _ _ h => h) (Or.inl ⟨by rfl, ?_⟩) ?_ ?_
  rotate_left
  · intro w'
    go_simp
    with_reducible rfl
  rotate_left
  · simp only [Act.put, List.setIfInBounds_toArray, List.set_cons_zero, List.set_cons_succ, i64_w, i32_w]
    rfl
  refine pure_ (i := 21) (N := (some 102)) (v := ?_) (a' := ?_) (bb 30 4194303) rfl rfl (any_of HT_.out (by kernel_rfl)) (fun _ _ _ h => h) (Or.inl ⟨by rfl, ?_⟩) ?_ ?_
  rotate_left
  · intro w'
    go_simp
    with_reducible rfl
  rotate_left
  · simp only [Act.put, List.setIfInBounds_toArray, List.set_cons_zero, List.set_cons_succ, i64_w, i32_w]
    rfl
  refine take_ (i := 22) (N := (some 103)) (v := ?_) (a' := ?_) (bb 30 8388607) rfl rfl (take_ofW HT_.out HW_.out (by kernel_rfl)) (fun _ _ _ h => h) (Or.inl ⟨by rfl, ?_⟩) hHeld ?_ ?_
  rotate_left
  · intro w' s0
    (try dsimp only at s0)
    go_simp
    with_reducible rfl
  rotate_left
  · simp only [Act.put, List.setIfInBounds_toArray, List.set_cons_zero, List.set_cons_succ, i64_w, i32_w]
    rfl
  refine pure_ (i := 23) (N := (some 104)) (v := ?_) (a' := ?_) (bb 30 16777215) rfl rfl (any_of HT_.out (by kernel_rfl)) (fun _ _ _ h => h) (Or.inl ⟨by rfl, ?_⟩) ?_ ?_
  rotate_left
  · intro w'
    go_simp
    with_reducible rfl
  rotate_left
  · simp only [Act.put, List.setIfInBounds_toArray, List.set_cons_zero, List.set_cons_succ, i64_w, i32_w]
    rfl
  refine pure_ (i := 24) (N := (some 105)) (v := ?_) (a' := ?_) (bb 30 33554431) rfl rfl (any_of HT_.out (by kernel_rfl)) (fun _ _ _ h => h) (Or.inl ⟨by rfl, ?_⟩) ?_ ?_
  rotate_left
  · intro w'
    go_simp
    with_reducible rfl
  rotate_left
  · simp only [Act.put, List.setIfInBounds_toArray, List.set_cons_zero, List.set_cons_succ, i64_w, i32_w]
    rfl
  refine take_ (i := 25) (N := (some 106)) (v := ?_) (a' := ?_) (bb 30 67108863) rfl rfl (take_ofW HT_.out HW_.out (by kernel_rfl)) (fun _ _ _ h => h) (Or.inl ⟨by rfl, ?_⟩) hHeld ?_ ?_
  rotate_left
  · intro w' s0
    (try dsimp only at s0)
    go_simp
    with_reducible rfl
  rotate_left
  · simp only [Act.put, List.setIfInBounds_toArray, List.set_cons_zero, List.set_cons_succ, i64_w, i32_w]
    rfl
  refine pure_ (i := 26) (N := (some 107)) (v := ?_) (a' := ?_) (bb 30 134217727) rfl rfl (any_of HT_.out (by kernel_rfl)) (fun _ _ _ h => h) (Or.inl ⟨by rfl, ?_⟩) ?_ ?_
  rotate_left
  · intro w'
    go_simp
    with_reducible rfl
  rotate_left
  · simp only [Act.put, List.setIfInBounds_toArray, List.set_cons_zero, List.set_cons_succ, i64_w, i32_w]
    rfl
  refine pure_ (i := 27) (N := (some 108)) (v := ?_) (a' := ?_) (bb 30 268435455) rfl rfl (any_of HT_.out (by kernel_rfl)) (fun _ _ _ h => h) (Or.inl ⟨by rfl, ?_⟩) ?_ ?_
  rotate_left
  · intro w'
    go_simp
    with_reducible rfl
  rotate_left
  · simp only [Act.put, List.setIfInBounds_toArray, List.set_cons_zero, List.set_cons_succ, i64_w, i32_w]
    rfl
  refine pure_ (i := 28) (N := (some 109)) (v := ?_) (a' := ?_) (bb 30 536870911) rfl rfl (any_of HT_.out (by kernel_rfl)) (fun _ _ _ h => h) (Or.inl ⟨by rfl, ?_⟩) ?_ ?_
  rotate_left
  · intro w'
    go_simp
    with_reducible rfl
  rotate_left
  · simp only [Act.put, List.setIfInBounds_toArray, List.set_cons_zero, List.set_cons_succ, i64_w, i32_w]
    rfl
  refine last_ (i := 29) (N := (some 110)) (bb 30 1073741823) rfl rfl (one_of HT_.out (by kernel_rfl)) (by decide) (fun K hK => ?_)
  refine goes_ Tryd.func78 (by kernel_rfl) rfl #[.pointer (some ⟨gd, 0, none⟩), .int .i64 (Go.RowKit.wrap64 ((fr : Int) + (q : Int))), .slice A5 512 c5] (by rfl) rfl rfl (by (try simp only [List.map_toArray, List.map_cons, List.map_nil]); first | done | rfl) ?_
  rw [HW64.out]
  with_reducible refine (HWR.out _ _ _ HSz.out).mono ?_
  rintro e w6 ⟨rfl, h6⟩
  have HS6 := Aside0.mk h6
  clear h6
  refine ⟨_, rfl, ?_⟩
  refine hK.out _ _ ?_
  clear hK K
  refine norm_ (a' := ?_) ?_ ?_
  rotate_left
  · show Act.put _ (some 110) _ = _
    simp only [Act.put, List.setIfInBounds_toArray, List.set_cons_zero, List.set_cons_succ, i64_w, i32_w]
    rfl
  refine done_ (done_of HT_.out (by kernel_rfl)) ?_
  clear HT_ HW_
  have y4 : w6.cell? ⟨gw, 4, none⟩ = some (.pointer (some ⟨x.gj, 0, none⟩)) := cell_at HS6.out.up2.cells.1 4 rfl
  have z4 : w6.cell? ⟨x.gj, 4, none⟩ = some (.int .i64 (nx : Int)) := blk_cell HS6.out.up4.cells.1 4
  have f4 := frozen_of HS6.out.up4 4
  have hn1 : (nx : Int) ≤ 1099511627776 := hnx
  go_upto_region 13 with (fail)
  have HS7 := Aside0.mk (show Sep w0 (w6.setCell ⟨x.gj, 4, none⟩ (.int .i64 ((nx : Int) + 1))) (cellsT x.gj (jC gd fr n st ((nx + 1 : Nat) : Int)) 134 :: ownT (Kd.int .u8) 5 (.slice A5 512 c5) (encJ ⟨nx, x.p, x.r⟩) :: dkT gd (s.put (fr + q) (encJ ⟨nx, x.p, x.r⟩)) :: cellsT gw (WR.V { x with nm := nx } A c).toArray 139 :: ownT kRF 69 (.slice A m c) x.r :: L) from HS6.out.up4.cset 4 (.int .i64 ((nx : Int) + 1)))
  clear y4 z4 f4 HS6
  generalize w6.setCell ⟨x.gj, 4, none⟩ (.int .i64 ((nx : Int) + 1)) = w7 at HS7 ⊢
  have z0 : w7.cell? ⟨gw, 0, none⟩ = some (.bool x.wt) := cell_at HS7.out.up3.cells.1 0 rfl
  have f0 := frozen_of HS7.out.up3 0
  go_wp2
  go_ret2
  refine ⟨rfl, WR.close_ (x := { x with nm := nx, wt := true }) (A := A) (c := c) ?_⟩
  have h := HS7.out.up3.cset 0 (.bool true)
  rw [WR.set0, ← HMM.out] at h
  exact h.up2.drop.up3.up1
end Go.Proofs.YtagodmmpkapgnaaDoor.M

namespace Go.Proofs.YtagodmmpkapgnaaDoor.M
open Go.RowKit Go.Maps Go.Proofs.YtagodmmpkapgnaaDoorW.PrintWords Go.Proofs.YtagodmmpkapgnaaDoorW.PrintLast Go.Proofs.YtagodmmpkapgnaaDoorW.PrintMore Go.Proofs.YtagodmmpkapgnaaDoor.Wr Go.Proofs.YtagodmmpkapgnaaDoor.Pl Go.Proofs.YtagodmmpkapgnaaDoor.P Go.Proofs.YtagodmmpkapgnaaDoor.A
set_option linter.unusedVariables false
set_option linter.unusedSimpArgs false
set_option maxRecDepth 100000 in
theorem field26_1 (s : RC) (h : s.p.length = 32) (A : Option Addr) (c : Nat) (W : World) : (Instr.field 26 (.agg (s.V A c).toArray) 1).run Tryd.prog W = .ok (.agg (nums .u8 s.p).toArray) W := by
  obtain ⟨n, p, r⟩ := s
  obtain ⟨x0, x1, x2, x3, x4, x5, x6, x7, x8, x9, x10, x11, x12, x13, x14, x15, x16, x17, x18, x19, x20, x21, x22, x23, x24, x25, x26, x27, x28, x29, x30, x31, rfl⟩ := list32 p h
  kernel_rfl
set_option maxRecDepth 100000 in
theorem field26_2 (s : RC) (h : s.p.length = 32) (A : Option Addr) (c : Nat) (W : World) : (Instr.field 26 (.agg (s.V A c).toArray) 2).run Tryd.prog W = .ok (.slice A s.r.length c) W := by
  obtain ⟨n, p, r⟩ := s
  obtain ⟨x0, x1, x2, x3, x4, x5, x6, x7, x8, x9, x10, x11, x12, x13, x14, x15, x16, x17, x18, x19, x20, x21, x22, x23, x24, x25, x26, x27, x28, x29, x30, x31, rfl⟩ := list32 p h
  kernel_rfl
section
variable {P : Program} {ops : Array Oper} {rest : List Oper} {o : Oper} {a : Act} {w : World} {Q : Exit → Act → World → Prop}
theorem gate_field {ty : TypeId} {x : Operand} {f : Nat} (_ho : o.op = .field ty x f) (h : wpList P ops Q (o :: rest) a w) : wpList P ops Q (o :: rest) a w := h
theorem wpList_fieldw (hgd : o.guard = none) (ty : TypeId) (x : Operand) (f : Nat) (ho : o.op = .field ty x f) (u v : Value) (hx : a.eval x = u) (hv : (Instr.field ty u f).run P w = .ok v w)
    (hk : wpList P ops Q rest (a.put o.dst v) w) : wpList P ops Q (o :: rest) a w :=
  wpList_plain hgd fun K hK => by
    unfold Oper.wp execOp
    simp only [ho, hx, Sem.run_bind, hv, Result.andThen_ok]
    exact hK _ _ hk
end
theorem Sep.push_rec {w0 w : World} {L : List Th} (y : RC) (hy : y.Ok) {A : Option Addr} {c : Nat} (h : Sep w0 w (ownT kRF 69 (.slice A y.r.length c) y.r :: L)) : Sep w0 (w.alloc (.cells (y.V A c).toArray 26)) (ownT kRC 26 (.slice (some ⟨w.heap.size, 0, none⟩) 1 1) [y] :: L) := by
  have hb := below_alloc (Below.refl w.heap.size w) (.cells (y.V A c).toArray 26)
  obtain ⟨F, ⟨⟨base, h1⟩, h2⟩, h3, h4⟩ := h.open_
  have h5 : kRF.R 69 (w.alloc (.cells (y.V A c).toArray 26)) 0 F (.slice A y.r.length c) y.r := Kd.R_lower (Kd.R_below h1 hb) (Nat.zero_le _)
  refine h4 [ownT kRC 26 (.slice (some ⟨w.heap.size, 0, none⟩) 1 1) [y]] _ ⟨fun k => F k ∨ k = w.heap.size, ⟨⟨0, ?_⟩, ?_⟩, fun b hb => hb.imp id (fun h => Nat.le_of_eq h.symm), trivial⟩ ((Chg.of_below (F := F) hb))
  · refine ⟨fun k hk => .inr (by injection hk with hk; exact hk.symm), y.V A c, ?_, ?_⟩
    · have h2 := World.ownsRow_lit (base := 0) (e := 26) (size := 34) w (y.V A c).toArray 1 (Nat.zero_le _) (by decide) (by simpa using RC.V_len hy A c)
      have h4 : (w.alloc (.cells (y.V A c).toArray 26)).ownsRow 0 26 34 (.slice (some ⟨w.heap.size, 0, none⟩) 1 1) 1 (y.V A c) := by simpa using h2
      exact h4
    · have h3 := Reps.snoc (Reps.none (kRC.M (w.alloc (.cells (y.V A c).toArray 26)) 0 (fun k => (F k ∨ k = w.heap.size) ∧ some k ≠ (Value.slice (some ⟨w.heap.size, 0, none⟩) 1 1).ownBlock)) 34) (p := y) (c := y.V A c) (kRC_mkM hy (Kd.R_mono h5 (fun k hk => ⟨.inl hk, fun e => by injection e with e; exact Nat.lt_irrefl _ (e ▸ h2 k hk)⟩))) (RC.V_len hy A c)
      exact h3
  · intro b hb
    show b < (w.heap.push _).size
    rw [Array.size_push]
    rcases hb with hb | hb
    · exact Nat.lt_succ_of_lt (h2 b hb)
    · omega
theorem getD_rep' {α : Type} {n j : Nat} {x d : α} (h : j < n) : (List.replicate n x).getD j d = x := by
  rw [List.getD_eq_getElem?_getD, List.getElem?_replicate, if_pos h]
  rfl
theorem flush_cur (s : DS) {j : Nat} (h : j < s.n) : s.flush.cur j = s.cur j := by
  unfold DS.flush
  show (match ([] : List (List Int)).getLast? with | some b => b | none => ((List.range s.n).map s.cur).getD j []) = _
  rw [List.getD_eq_getElem?_getD]
  simp [h]
theorem put_cur (s : DS) (i : Nat) (b : List Int) : (s.put i b).cur i = b := by
  unfold DS.put DS.cur
  simp
theorem put_cur_ne (s : DS) {i j : Nat} (b : List Int) (h : j ≠ i) : (s.put i b).cur j = s.cur j := by
  unfold DS.put DS.cur
  simp [h]
theorem fresh_cur {n j : Nat} (h : j < n) : (DS.fresh n (List.replicate n zeros)).cur j = zeros := by
  show (List.replicate n zeros).getD j [] = _
  exact getD_rep' h
theorem zeros_bytes : bytes_ zeros := fun x hx => by rw [List.eq_of_mem_replicate hx]; omega
theorem zeros_44 : zeros.getD 44 0 = 0 := getD_rep' (by decide)
theorem decJ_zeros : decJ zeros = none := decJ_cnt zeros_bytes (.inl (by rw [zeros_44]; decide))
theorem one_ok (n : Int) : (oneR n).Ok := by
  have hk : ∀ x ∈ keyO (n % 256), 0 ≤ x ∧ x < 256 := by
    intro x hx
    simp [keyO] at hx
    omega
  exact ⟨rfl, hk, fun x hx => by
    have : x = ⟨keyO (n % 256), 20 + n.tmod 100, 300⟩ := by simpa [oneR] using hx
    subst this
    exact ⟨rfl, hk⟩⟩
theorem one_may (n : Int) (h0 : 0 ≤ n) (h1 : n ≤ 1099511627776) : (oneR n).May := by
  have hq0 : -100 < n.tmod 100 := Int.lt_tmod_of_pos n (by decide)
  have hq1 : n.tmod 100 < 100 := Int.tmod_lt_of_pos n (by decide)
  exact ⟨⟨h0, h1⟩, Nat.le_refl 1, (show 1 ≤ 8 by decide), fun x hx => by
    have : x = ⟨keyO (n % 256), 20 + n.tmod 100, 300⟩ := by simpa [oneR] using hx
    subst this
    have := Int.tmod_nonneg 100 h0
    simp only
    omega⟩
end Go.Proofs.YtagodmmpkapgnaaDoor.M
