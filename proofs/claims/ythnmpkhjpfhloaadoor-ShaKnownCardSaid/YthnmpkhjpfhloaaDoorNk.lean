import Derived.Test.YthnmpkhjpfhloaaDoorMp
import Derived.KernelRfl
namespace Go.Proofs.YthnmpkhjpfhloaaDoor.M
open Go.RowKit Go.Proofs.YthnmpkhjpfhloaaDoorW.PrintWords
set_option linter.unusedVariables false
/-! The sum of many like blocks, by the kernel. -/
noncomputable def kForce {b : Type} (v : Nat) (f : Nat → b) : b := Nat.rec (motive := fun _ => b) (f Nat.zero) (fun n _ => f (Nat.succ n)) v
theorem kForce_eq {b : Type} (v : Nat) (f : Nat → b) : kForce v f = f v := by cases v <;> rfl
def kM (x : Nat) : Nat := Nat.mod x (nat_lit 4294967296)
def kS1 (e : Nat) : Nat := (fun X => Nat.mod (Nat.xor (Nat.xor (Nat.div X (nat_lit 64)) (Nat.div X (nat_lit 2048))) (Nat.div X (nat_lit 33554432))) (nat_lit 4294967296)) (Nat.mul e (nat_lit 4294967297))
def kS0 (e : Nat) : Nat := (fun X => Nat.mod (Nat.xor (Nat.xor (Nat.div X (nat_lit 4)) (Nat.div X (nat_lit 8192))) (Nat.div X (nat_lit 4194304))) (nat_lit 4294967296)) (Nat.mul e (nat_lit 4294967297))
def kCh (e f g : Nat) : Nat := Nat.xor (Nat.land e f) (Nat.land (Nat.xor e (nat_lit 4294967295)) g)
def kMaj (a b c : Nat) : Nat := Nat.xor (Nat.xor (Nat.land a b) (Nat.land a c)) (Nat.land b c)
noncomputable def kGo {r : Type} (l : List Nat) : (a b c d e f g h : Nat) → (Nat → Nat → Nat → Nat → Nat → Nat → Nat → Nat → r) → r :=
  List.rec (motive := fun _ => (a b c d e f g h : Nat) → (Nat → Nat → Nat → Nat → Nat → Nat → Nat → Nat → r) → r) (fun a b c d e f g h k => k a b c d e f g h)
    (fun kw _ ih a b c d e f g h k => kForce (Nat.add (Nat.add (Nat.add h kw) (kS1 e)) (kCh e f g)) fun x => kForce (kM (Nat.add x (Nat.add (kS0 a) (kMaj a b c)))) fun na => kForce (kM (Nat.add d x)) fun ne => ih na a b c ne e f g k) l
def KWl : List Nat := [2750124281, 3533219314, 388128048, 1259814150, 2595759036, 3142742866, 4087407621, 209567798, 963185657, 1944370274, 2240997151, 3060653860, 3558850261, 3795850079, 4248659976, 587027157, 3667503101, 3854337474, 1109373709, 1449834259, 1332383432, 1811277571, 1402599420, 41923541, 356419487, 2728937732, 4167673427, 1780128268, 3506461443, 1927923708, 3100717738, 957412701, 3211936012, 2525724465, 897656708, 2750766458, 3733122911, 1490448492, 1007131835, 215170638, 199900175, 3051847127, 2546784594, 1198467073, 1121424104, 1993824782, 4206943767, 1385611443, 2838015846, 320495253, 2870002303, 616322403, 3868675357, 810932918, 4192983651, 4114851946, 2567787456, 3518289627, 3043469264, 3431775655, 2875437985, 3700493388, 2838780141, 3572068108]
noncomputable def kMany (n : Nat) : (a b c d e f g h : Nat) → (Nat → Nat → Nat → Nat → Nat → Nat → Nat → Nat → Bool) → Bool :=
  Nat.rec (motive := fun _ => (a b c d e f g h : Nat) → (Nat → Nat → Nat → Nat → Nat → Nat → Nat → Nat → Bool) → Bool) (fun a b c d e f g h k => k a b c d e f g h)
    (fun _ ih a b c d e f g h k => kGo KWl a b c d e f g h fun a2 b2 c2 d2 e2 f2 g2 h2 => kForce (kM (Nat.add a a2)) fun a => kForce (kM (Nat.add b b2)) fun b => kForce (kM (Nat.add c c2)) fun c => kForce (kM (Nat.add d d2)) fun d => kForce (kM (Nat.add e e2)) fun e => kForce (kM (Nat.add f f2)) fun f => kForce (kM (Nat.add g g2)) fun g => kForce (kM (Nat.add h h2)) fun h => ih a b c d e f g h k) n
def kIs (A B C D E F G H : Nat) (a b c d e f g h : Nat) : Bool := and (Nat.beq a A) (and (Nat.beq b B) (and (Nat.beq c C) (and (Nat.beq d D) (and (Nat.beq e E) (and (Nat.beq f F) (and (Nat.beq g G) (Nat.beq h H)))))))

theorem rot_mul {x : Nat} (n p q : Nat) (hx : x < 4294967296) (hp : p = 2 ^ n) (hq : q = 2 ^ (32 - n)) (hpq : q * p = 4294967296) : x * 4294967297 / p % 4294967296 = rotN n x := by
  have hp0 : 0 < p := by rw [hp]; exact Nat.two_pow_pos n
  have hq0 : 0 < q := by rw [hq]; exact Nat.two_pow_pos _
  have e1 : x * 4294967297 / p = x * q + x / p := by
    rw [show x * 4294967297 = x + x * q * p by rw [Nat.mul_assoc, hpq]; omega, Nat.add_mul_div_right _ _ hp0, Nat.add_comm]
  have e2 : x * q % 4294967296 = q * (x % p) := by rw [← hpq, Nat.mul_comm x q, Nat.mul_mod_mul_left]
  have h3 : x / p < q := by rw [Nat.div_lt_iff_lt_mul hp0, hpq]; exact hx
  have h4 : q * (x % p) + q ≤ q * p := by
    have h5 := Nat.mod_lt x hp0
    rw [← Nat.mul_succ]
    exact Nat.mul_le_mul_left _ h5
  rw [e1, Nat.add_mod, e2, Nat.mod_eq_of_lt (show x / p < 4294967296 by rw [hpq] at h4; omega), Nat.mod_eq_of_lt (by rw [hpq] at h4; omega)]
  unfold rotN
  rw [← hp, ← hq, e2, Nat.or_comm, hq, ← Nat.two_pow_add_eq_or_of_lt (by rw [← hq]; exact h3)]
theorem kS1_eq {e : Nat} (h : e < 4294967296) : kS1 e = bsig1 e := by
  show (((e * 4294967297) / 64 ^^^ (e * 4294967297) / 2048) ^^^ (e * 4294967297) / 33554432) % 4294967296 = _
  have x := fun a b : Nat => Nat.xor_mod_two_pow (a := a) (b := b) (n := 32)
  rw [show (2 : Nat) ^ 32 = 4294967296 from rfl] at x
  rw [x, x, rot_mul 6 64 67108864 h rfl rfl rfl, rot_mul 11 2048 2097152 h rfl rfl rfl, rot_mul 25 33554432 128 h rfl rfl rfl]
  rfl
theorem kS0_eq {e : Nat} (h : e < 4294967296) : kS0 e = bsig0 e := by
  show (((e * 4294967297) / 4 ^^^ (e * 4294967297) / 8192) ^^^ (e * 4294967297) / 4194304) % 4294967296 = _
  have x := fun a b : Nat => Nat.xor_mod_two_pow (a := a) (b := b) (n := 32)
  rw [show (2 : Nat) ^ 32 = 4294967296 from rfl] at x
  rw [x, x, rot_mul 2 4 1073741824 h rfl rfl rfl, rot_mul 13 8192 524288 h rfl rfl rfl, rot_mul 22 4194304 1024 h rfl rfl rfl]
  rfl
theorem kGo_cons {r : Type} (kw : Nat) (l : List Nat) (a b c d e f g h : Nat) (k : Nat → Nat → Nat → Nat → Nat → Nat → Nat → Nat → r) :
    kGo (kw :: l) a b c d e f g h k = kGo l (((h + kw + kS1 e + kCh e f g) + (kS0 a + kMaj a b c)) % 4294967296) a b c ((d + (h + kw + kS1 e + kCh e f g)) % 4294967296) e f g k := by
  show kForce (Nat.add (Nat.add (Nat.add h kw) (kS1 e)) (kCh e f g)) (fun x => kForce (kM (Nat.add x (Nat.add (kS0 a) (kMaj a b c)))) fun na => kForce (kM (Nat.add d x)) fun ne => kGo l na a b c ne e f g k) = _
  rw [kForce_eq, kForce_eq, kForce_eq]
  rfl
theorem kGo_rnds {r : Type} (h0 w : List Nat) (k : Nat → Nat → Nat → Nat → Nat → Nat → Nat → Nat → r) : ∀ (l : List Nat) (t a b c d e f g h : Nat), rnds h0 w t = [a, b, c, d, e, f, g, h] → a < 4294967296 → e < 4294967296 →
    (∀ i, i < l.length → get l i = (get w (t + i) + get tableL (t + i)) % 4294967296) →
    kGo l a b c d e f g h k = k (get (rnds h0 w (t + l.length)) 0) (get (rnds h0 w (t + l.length)) 1) (get (rnds h0 w (t + l.length)) 2) (get (rnds h0 w (t + l.length)) 3) (get (rnds h0 w (t + l.length)) 4) (get (rnds h0 w (t + l.length)) 5) (get (rnds h0 w (t + l.length)) 6) (get (rnds h0 w (t + l.length)) 7)
  | [], t, a, b, c, d, e, f, g, h, hs, _, _, _ => by
    rw [show t + ([] : List Nat).length = t from rfl, hs]
    rfl
  | kw :: l, t, a, b, c, d, e, f, g, h, hs, ha, he, hl => by
    have h0' := hl 0 (by simp)
    have hkw : kw = (get w t + get tableL t) % 4294967296 := h0'
    rw [kGo_cons, kS1_eq he, kS0_eq ha]
    have hstep : rnds h0 w (t + 1) = [((h + kw + bsig1 e + kCh e f g) + (bsig0 a + kMaj a b c)) % 4294967296, a, b, c, (d + (h + kw + bsig1 e + kCh e f g)) % 4294967296, e, f, g] := by
      rw [rnds, hs]
      show [addN (addN (addN (addN (addN h (get w t)) (get tableL t)) (bsig1 e)) (kCh e f g)) (addN (bsig0 a) (kMaj a b c)), a, b, c, addN d (addN (addN (addN (addN h (get w t)) (get tableL t)) (bsig1 e)) (kCh e f g)), e, f, g] = _
      rw [hkw]
      generalize bsig1 e = p1
      generalize kCh e f g = p2
      generalize bsig0 a = p3
      generalize kMaj a b c = p4
      generalize get w t = p5
      generalize get tableL t = p6
      unfold addN
      rw [show (((((((h + p5) % 4294967296 + p6) % 4294967296 + p1) % 4294967296 + p2) % 4294967296 + (p3 + p4) % 4294967296) % 4294967296)) = (h + (p5 + p6) % 4294967296 + p1 + p2 + (p3 + p4)) % 4294967296 by omega,
        show (d + ((((h + p5) % 4294967296 + p6) % 4294967296 + p1) % 4294967296 + p2) % 4294967296) % 4294967296 = (d + (h + (p5 + p6) % 4294967296 + p1 + p2)) % 4294967296 by omega]
    have ih := kGo_rnds h0 w k l (t + 1) _ a b c _ e f g hstep (Nat.mod_lt _ (by decide)) (Nat.mod_lt _ (by decide)) (fun i hi => by
      have := hl (i + 1) (by simp; omega)
      rw [show t + 1 + i = t + (i + 1) by omega]
      exact this)
    rw [show t + 1 + l.length = t + (kw :: l).length by rw [List.length_cons]; omega] at ih
    exact ih
def a64 : List Int := List.replicate 64 97
def SWl : List Nat := [1633771873, 1633771873, 1633771873, 1633771873, 1633771873, 1633771873, 1633771873, 1633771873, 1633771873, 1633771873, 1633771873, 1633771873, 1633771873, 1633771873, 1633771873, 1633771873, 4127079996, 4127079996, 845026631, 845026631, 562127449, 562127449, 4142485024, 2340825851, 2097165901, 4202070679, 1214676619, 2864781893, 169889552, 2638362293, 2986790745, 619170806, 2545628807, 1752194553, 3897866632, 1354584167, 2037939211, 3798754737, 3125072781, 2053181897, 1764381550, 231544716, 3582021090, 2147669598, 1900325583, 2688439274, 112371858, 1110188099, 2407788112, 4108513933, 2210941747, 4027291822, 2910535786, 3783077996, 2655981588, 2366978167, 612225234, 1494184812, 815738812, 1069923231, 447001511, 943759201, 3929715958, 242742810]
theorem spread_a : spreadN a64 = SWl := by kernel_rfl
theorem KW_ok : ∀ i, i < KWl.length → get KWl i = (get (spreadN a64) (0 + i) + get tableL (0 + i)) % 4294967296 := by
  rw [spread_a]
  have h : ∀ i : Fin 64, get KWl i.1 = (get SWl (0 + i.1) + get tableL (0 + i.1)) % 4294967296 := by decide +kernel
  intro i hi
  exact h ⟨i, by simpa [KWl] using hi⟩
theorem fin_eight (a b c d e f g h : Nat) (s : List Nat) : fin [a, b, c, d, e, f, g, h] s 8 = [addN a (get s 0), addN b (get s 1), addN c (get s 2), addN d (get s 3), addN e (get s 4), addN f (get s 5), addN g (get s 6), addN h (get s 7)] := by
  simp [fin, get]
def itS : Nat → List Nat → List Nat
  | 0, s => s
  | n + 1, s => itS n (overN s a64)
theorem itS_add (m : Nat) : ∀ (n : Nat) (s : List Nat), itS (n + m) s = itS m (itS n s)
  | 0, s => by rw [Nat.zero_add]; rfl
  | n + 1, s => by rw [Nat.add_right_comm]; exact itS_add m n _
theorem itS_last : ∀ (n : Nat) (s : List Nat), itS (n + 1) s = overN (itS n s) a64
  | 0, s => rfl
  | n + 1, s => itS_last n (overN s a64)
theorem kMany_eq (k : Nat → Nat → Nat → Nat → Nat → Nat → Nat → Nat → Bool) : ∀ (n a b c d e f g h : Nat), W32 [a, b, c, d, e, f, g, h] →
    kMany n a b c d e f g h k = k (get (itS n [a, b, c, d, e, f, g, h]) 0) (get (itS n [a, b, c, d, e, f, g, h]) 1) (get (itS n [a, b, c, d, e, f, g, h]) 2) (get (itS n [a, b, c, d, e, f, g, h]) 3) (get (itS n [a, b, c, d, e, f, g, h]) 4) (get (itS n [a, b, c, d, e, f, g, h]) 5) (get (itS n [a, b, c, d, e, f, g, h]) 6) (get (itS n [a, b, c, d, e, f, g, h]) 7)
  | 0, a, b, c, d, e, f, g, h, _ => rfl
  | n + 1, a, b, c, d, e, f, g, h, hw => by
    show (kGo KWl a b c d e f g h fun a2 b2 c2 d2 e2 f2 g2 h2 => kForce (kM (Nat.add a a2)) fun a => kForce (kM (Nat.add b b2)) fun b => kForce (kM (Nat.add c c2)) fun c => kForce (kM (Nat.add d d2)) fun d => kForce (kM (Nat.add e e2)) fun e => kForce (kM (Nat.add f f2)) fun f => kForce (kM (Nat.add g g2)) fun g => kForce (kM (Nat.add h h2)) fun h => kMany n a b c d e f g h k) = _
    rw [kGo_rnds [a, b, c, d, e, f, g, h] (spreadN a64) _ KWl 0 a b c d e f g h rfl (hw 0) (hw 4) KW_ok]
    rw [kForce_eq, kForce_eq, kForce_eq, kForce_eq, kForce_eq, kForce_eq, kForce_eq, kForce_eq]
    have ho : overN [a, b, c, d, e, f, g, h] a64 = [addN a (get (rnds [a, b, c, d, e, f, g, h] (spreadN a64) 64) 0), addN b (get (rnds [a, b, c, d, e, f, g, h] (spreadN a64) 64) 1), addN c (get (rnds [a, b, c, d, e, f, g, h] (spreadN a64) 64) 2), addN d (get (rnds [a, b, c, d, e, f, g, h] (spreadN a64) 64) 3), addN e (get (rnds [a, b, c, d, e, f, g, h] (spreadN a64) 64) 4), addN f (get (rnds [a, b, c, d, e, f, g, h] (spreadN a64) 64) 5), addN g (get (rnds [a, b, c, d, e, f, g, h] (spreadN a64) 64) 6), addN h (get (rnds [a, b, c, d, e, f, g, h] (spreadN a64) 64) 7)] := fin_eight a b c d e f g h _
    have hlt := overN_lt hw a64
    rw [itS, ho]
    rw [ho] at hlt
    exact kMany_eq k n _ _ _ _ _ _ _ _ hlt
theorem kIs_true {A B C D E F G H a b c d e f g h : Nat} (x : kIs A B C D E F G H a b c d e f g h = true) : [a, b, c, d, e, f, g, h] = [A, B, C, D, E, F, G, H] := by
  unfold kIs at x
  simp only [Bool.and_eq_true, Nat.beq_eq] at x
  obtain ⟨rfl, rfl, rfl, rfl, rfl, rfl, rfl, rfl⟩ := x
  rfl
theorem itS_len (n : Nat) : ∀ s : List Nat, s.length = 8 → (itS n s).length = 8 := by
  induction n with
  | zero => exact fun s h => h
  | succ n ih => exact fun s h => ih _ (overN_len h _)
theorem many_itS {n a b c d e f g h A B C D E F G H : Nat} (hw : W32 [a, b, c, d, e, f, g, h]) (x : kMany n a b c d e f g h (kIs A B C D E F G H) = true) : itS n [a, b, c, d, e, f, g, h] = [A, B, C, D, E, F, G, H] := by
  rw [kMany_eq _ n _ _ _ _ _ _ _ _ hw] at x
  rw [eight_get (itS_len n [a, b, c, d, e, f, g, h] rfl)]
  exact kIs_true x
end Go.Proofs.YthnmpkhjpfhloaaDoor.M
