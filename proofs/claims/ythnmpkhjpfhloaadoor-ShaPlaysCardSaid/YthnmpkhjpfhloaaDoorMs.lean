import Derived.Test.YthnmpkhjpfhloaaDoorPx1
import Derived.Laws.BitsAllLaws
namespace Go.Proofs.YthnmpkhjpfhloaaDoor.M
open Go.RowKit Go.Proofs.YthnmpkhjpfhloaaDoorW.PrintWords Go.Proofs.YthnmpkhjpfhloaaDoorW.PrintLast Go.Proofs.YthnmpkhjpfhloaaDoorW.PrintMore
set_option linter.unusedVariables false
set_option linter.unusedSimpArgs false
/-! SHA-256 on numbers below 2^32, and how the walk's expressions read as it. -/
def addN (a b : Nat) : Nat := (a + b) % 4294967296
def rotN (n x : Nat) : Nat := x / 2 ^ n ||| x * 2 ^ (32 - n) % 4294967296
def ssig0 (x : Nat) : Nat := (rotN 7 x ^^^ rotN 18 x) ^^^ x / 8
def ssig1 (x : Nat) : Nat := (rotN 17 x ^^^ rotN 19 x) ^^^ x / 1024
def bsig0 (x : Nat) : Nat := (rotN 2 x ^^^ rotN 13 x) ^^^ rotN 22 x
def bsig1 (x : Nat) : Nat := (rotN 6 x ^^^ rotN 11 x) ^^^ rotN 25 x
def chN (e f g : Nat) : Nat := (e &&& f) ^^^ ((e ^^^ 4294967295) &&& g)
def majN (a b c : Nat) : Nat := ((a &&& b) ^^^ (a &&& c)) ^^^ (b &&& c)
def toN (x : Int) : Nat := (x % 4294967296).toNat
def word4 (a b c d : Int) : Nat := ((toN a * 16777216 % 4294967296 ||| toN b * 65536 % 4294967296) ||| toN c * 256 % 4294967296) ||| toN d
theorem mulm (y m : Nat) : ((y : Int) * (m : Int) % 4294967296) = ((y * m % 4294967296 : Nat) : Int) := by rw [← Int.natCast_mul]; omega
theorem mulp (y m : Nat) : ((y : Int) * 2 ^ m % 4294967296) = ((y * 2 ^ m % 4294967296 : Nat) : Int) := by
  rw [show ((2 : Int) ^ m) = ((2 ^ m : Nat) : Int) from (Int.natCast_pow 2 m).symm, mulm]
theorem divp (y m : Nat) : ((y : Int) / 2 ^ m) = ((y / 2 ^ m : Nat) : Int) := by
  rw [show ((2 : Int) ^ m) = ((2 ^ m : Nat) : Int) from (Int.natCast_pow 2 m).symm]; exact (Int.natCast_ediv _ _).symm
theorem toN_lt (x : Int) : toN x < 4294967296 := by unfold toN; omega
theorem toN_cast (x : Int) : ((toN x : Nat) : Int) = x % 4294967296 := by unfold toN; omega
theorem or32 {a b : Nat} (ha : a < 4294967296) (hb : b < 4294967296) : a ||| b < 4294967296 := Nat.or_lt_two_pow (n := 32) ha hb
theorem xor32 {a b : Nat} (ha : a < 4294967296) (hb : b < 4294967296) : a ^^^ b < 4294967296 := Nat.xor_lt_two_pow (n := 32) ha hb
theorem and32 {a : Nat} (b : Nat) (ha : a < 4294967296) : a &&& b < 4294967296 := Nat.lt_of_le_of_lt Nat.and_le_left ha
theorem addN_lt (a b : Nat) : addN a b < 4294967296 := Nat.mod_lt _ (by decide)
theorem div_lt32 {x : Nat} (n : Nat) (h : x < 4294967296) : x / n < 4294967296 := Nat.lt_of_le_of_lt (Nat.div_le_self _ _) h
theorem rotN_lt {x : Nat} (n : Nat) (h : x < 4294967296) : rotN n x < 4294967296 := or32 (div_lt32 _ h) (Nat.mod_lt _ (by decide))
theorem ssig0_lt {x : Nat} (h : x < 4294967296) : ssig0 x < 4294967296 := xor32 (xor32 (rotN_lt _ h) (rotN_lt _ h)) (div_lt32 _ h)
theorem ssig1_lt {x : Nat} (h : x < 4294967296) : ssig1 x < 4294967296 := xor32 (xor32 (rotN_lt _ h) (rotN_lt _ h)) (div_lt32 _ h)
theorem bsig0_lt {x : Nat} (h : x < 4294967296) : bsig0 x < 4294967296 := xor32 (xor32 (rotN_lt _ h) (rotN_lt _ h)) (rotN_lt _ h)
theorem bsig1_lt {x : Nat} (h : x < 4294967296) : bsig1 x < 4294967296 := xor32 (xor32 (rotN_lt _ h) (rotN_lt _ h)) (rotN_lt _ h)
theorem word4_lt (a b c d : Int) : word4 a b c d < 4294967296 := or32 (or32 (or32 (Nat.mod_lt _ (by decide)) (Nat.mod_lt _ (by decide))) (Nat.mod_lt _ (by decide))) (toN_lt _)

/-- A rotation, as the two programs write it. -/
theorem turned_eq (x n : Nat) (hx : x < 4294967296) (hn : 1 ≤ n) (hn2 : n ≤ 31) : P.sha_turned.f (x : Int) (n : Int) = some ((rotN n x : Nat) : Int) := by
  have e1 : Go.bits .and .u64 (IntKind.u64.wrap (wrap64 (-(n : Int)))) 31 = ((32 - n : Nat) : Int) := by
    rw [show IntKind.u64.wrap (wrap64 (-(n : Int))) = ((18446744073709551616 - n : Nat) : Int) by unfold wrap64 IntKind.wrap; simp [IntKind.signed, IntKind.bits]; omega, show (31 : Int) = ((31 : Nat) : Int) from rfl, u64_and_nat _ _ (by omega) (by decide), nat_mask5]
    omega
  have e2 : IntKind.u64.wrap (32 - ((32 - n : Nat) : Int)) = ((n : Nat) : Int) := by unfold IntKind.wrap; simp [IntKind.signed, IntKind.bits]; omega
  unfold P.sha_turned.f P.bits_RotateLeft32.f
  rw [e1, e2, if_pos (by omega), if_pos (by omega)]
  simp only [Option.bind_some]
  congr 1
  unfold shl shr rotN
  rw [show min (((32 - n : Nat) : Int)).toNat IntKind.u32.bits = 32 - n by simp [IntKind.bits], show min ((n : Int)).toNat IntKind.u32.bits = n by simp [IntKind.bits]; omega, IntKind.wrap_u32]
  rw [mulp, divp]
  rw [u32_or_nat _ _ (Nat.mod_lt _ (by decide)) (div_lt32 _ hx), Nat.or_comm]
theorem rotr_eq (x n : Nat) (hx : x < 4294967296) (hn : 1 ≤ n) (hn2 : n ≤ 31) : P.kilnref2_rotr.f (x : Int) (n : Int) = some ((rotN n x : Nat) : Int) := by
  have e2 : IntKind.u64.wrap (32 - (n : Int)) = ((32 - n : Nat) : Int) := by unfold IntKind.wrap; simp [IntKind.signed, IntKind.bits]; omega
  unfold P.kilnref2_rotr.f
  rw [e2, if_pos (by omega), if_pos (by omega)]
  congr 1
  unfold shl shr rotN
  rw [show min (((32 - n : Nat) : Int)).toNat IntKind.u32.bits = 32 - n by simp [IntKind.bits], show min ((n : Int)).toNat IntKind.u32.bits = n by simp [IntKind.bits]; omega, IntKind.wrap_u32]
  rw [mulp, divp]
  rw [u32_or_nat _ _ (div_lt32 _ hx) (Nat.mod_lt _ (by decide))]
theorem word4_eq (a b c d : Int) : Go.bits .or .u32 (Go.bits .or .u32 (Go.bits .or .u32 (((a % 4294967296) * 16777216) % 4294967296) (((b % 4294967296) * 65536) % 4294967296)) (((c % 4294967296) * 256) % 4294967296)) (d % 4294967296) = ((word4 a b c d : Nat) : Int) := by
  rw [← toN_cast a, ← toN_cast b, ← toN_cast c, ← toN_cast d]
  have hx := toN_lt
  rw [show (16777216 : Int) = ((16777216 : Nat) : Int) from rfl, show (65536 : Int) = ((65536 : Nat) : Int) from rfl, show (256 : Int) = ((256 : Nat) : Int) from rfl, mulm, mulm, mulm]
  have m : ∀ y : Nat, y % 4294967296 < 4294967296 := fun y => Nat.mod_lt _ (by decide)
  rw [u32_or_nat _ _ (m _) (m _), u32_or_nat _ _ (or32 (m _) (m _)) (m _), u32_or_nat _ _ (or32 (or32 (m _) (m _)) (m _)) (hx _)]
  rfl

/-! The sixty-four words of a block. -/
def byteAt (b : List Int) (i : Nat) : Int := b.getD i 0
def wordAt (b : List Int) (t : Nat) : Nat := word4 (byteAt b (4 * t)) (byteAt b (4 * t + 1)) (byteAt b (4 * t + 2)) (byteAt b (4 * t + 3))
def get (l : List Nat) (i : Nat) : Nat := l.getD i 0
def s1 (b : List Int) : Nat → List Nat
  | 0 => List.replicate 64 0
  | t + 1 => (s1 b t).set t (wordAt b t)
def s2step (l : List Nat) (t : Nat) : Nat := addN (addN (ssig1 (get l (t - 2))) (addN (get l (t - 7)) (get l (t - 16)))) (ssig0 (get l (t - 15)))
def s2 (b : List Int) : Nat → List Nat
  | 0 => s1 b 16
  | k + 1 => (s2 b k).set (16 + k) (s2step (s2 b k) (16 + k))
def spreadN (b : List Int) : List Nat := s2 b 48
def W32 (l : List Nat) : Prop := ∀ i, get l i < 4294967296
theorem get_set_eq (l : List Nat) (t v : Nat) (h : t < l.length) : get (l.set t v) t = v := by simp [get, h]
theorem get_set_ne (l : List Nat) (t v i : Nat) (h : t ≠ i) : get (l.set t v) i = get l i := by simp [get, List.getElem?_set_ne h]
theorem W32.set {l : List Nat} (h : W32 l) (t : Nat) {v : Nat} (hv : v < 4294967296) : W32 (l.set t v) := fun i => by
  by_cases e : t = i
  · subst e
    by_cases hl : t < l.length
    · rw [get_set_eq l t v hl]; exact hv
    · rw [List.set_eq_of_length_le (by omega)]; exact h _
  · rw [get_set_ne l t v i e]; exact h _
theorem W32_zeros (n : Nat) : W32 (List.replicate n 0) := fun i => by
  unfold get
  rw [List.getD_eq_getElem?_getD, List.getElem?_replicate]
  split <;> decide
theorem s1_len (b : List Int) : ∀ t, (s1 b t).length = 64
  | 0 => List.length_replicate
  | t + 1 => by rw [s1, List.length_set]; exact s1_len b t
theorem s1_lt (b : List Int) : ∀ t, W32 (s1 b t)
  | 0 => W32_zeros _
  | t + 1 => (s1_lt b t).set t (word4_lt _ _ _ _)
theorem s2_len (b : List Int) : ∀ t, (s2 b t).length = 64
  | 0 => s1_len b 16
  | t + 1 => by rw [s2, List.length_set]; exact s2_len b t
theorem s2_lt (b : List Int) : ∀ t, W32 (s2 b t)
  | 0 => s1_lt b 16
  | t + 1 => (s2_lt b t).set _ (addN_lt _ _)
theorem spreadN_len (b : List Int) : (spreadN b).length = 64 := s2_len b 48
theorem spreadN_lt (b : List Int) : W32 (spreadN b) := s2_lt b 48

/-! How the walk writes sums. -/
theorem add_eq (a b : Nat) : ((a : Int) + (b : Int)) % 4294967296 = ((addN a b : Nat) : Int) := by unfold addN; omega
theorem div_eq (a n : Nat) : ((a : Int) / (n : Int)) = ((a / n : Nat) : Int) := (Int.natCast_ediv _ _).symm

/-! An array of numbers in memory. -/
def arr (l : List Nat) : Array Value := (l.map fun n : Nat => Value.int .u32 (n : Int)).toArray
theorem arr_set (l : List Nat) (t v : Nat) : (arr l).setIfInBounds t (.int .u32 (v : Int)) = arr (l.set t v) := by simp [arr, List.map_set]
theorem arr_get (l : List Nat) (t : Nat) (h : t < l.length) : (arr l)[t]? = some (.int .u32 ((get l t : Nat) : Int)) := by simp [arr, get, List.getElem?_eq_getElem h]
theorem arr_size (l : List Nat) : (arr l).size = l.length := by simp [arr]

/-! The two rotations' contracts: nothing changes. -/
set_option maxHeartbeats 8000000 in
theorem rot_still (x n : Nat) (N : Int) (w : World) (hN : N = wrap64 (-(n : Int))) (hx : x < 4294967296) (h1 : 1 ≤ n) (h2 : n ≤ 31) :
    Calls Tryd.prog 36 #[.int .u32 (x : Int), .int .i64 N] w fun e w' => e = .returned (.int .u32 ((rotN n x : Nat) : Int)) ∧ w' = w := by
  subst hN
  have e1 : Go.bits .and .u64 (IntKind.u64.wrap (wrap64 (-(n : Int)))) 31 = ((32 - n : Nat) : Int) := by
    rw [show IntKind.u64.wrap (wrap64 (-(n : Int))) = ((18446744073709551616 - n : Nat) : Int) by unfold wrap64 IntKind.wrap; simp [IntKind.signed, IntKind.bits]; omega, show (31 : Int) = ((31 : Nat) : Int) from rfl, u64_and_nat _ _ (by omega) (by decide), nat_mask5]
    omega
  have e2 : IntKind.u64.wrap (32 - ((32 - n : Nat) : Int)) = ((n : Nat) : Int) := by unfold IntKind.wrap; simp [IntKind.signed, IntKind.bits]; omega
  have E := turned_eq x n hx h1 h2
  unfold P.sha_turned.f P.bits_RotateLeft32.f at E
  rw [e1, e2, if_pos (by omega), if_pos (by omega)] at E
  simp only [Option.bind_some] at E
  replace E := Option.some.inj E
  generalize (rotN n x : Nat) = r at E ⊢
  subst_vars
  generalize wrap64 (-(n : Int)) = N at e1 ⊢
  generalize hm : ((32 - n : Nat) : Int) = m at e1 e2 E
  have hm0 : 0 ≤ m := by omega
  have hm1 : m ≤ 32 := by omega
  have hn0 : 0 ≤ (n : Int) := by omega
  have hn1 : (n : Int) ≤ 32 := by omega
  generalize hq1 : shl .u32 (x : Int) m = q1 at E
  generalize hq2 : shr .u32 (x : Int) (n : Int) = q2 at E
  have hq1_ : (IntKind.u32.wrap ((x : Int) * 2 ^ min (m).toNat 32)) = q1 := hq1
  have hq1z : (IntKind.u32.wrap ((x : Int) * 2 ^ (m).toNat)) = q1 := shl_small hq1 hm1
  have hq2_ : ((x : Int) / 2 ^ min ((n : Int)).toNat 32) = q2 := hq2
  have hq2z : ((x : Int) / 2 ^ ((n : Int)).toNat) = q2 := shr_small hq2 hn1
  have d0 := eq_true hm0
  have d1 : decide (0 ≤ m) = true := decide_eq_true hm0
  have d2 := eq_true hn0
  have d3 : decide (0 ≤ (n : Int)) = true := decide_eq_true hn0
  go_enter Tryd.func36, Tryd.ntmps36
  go_wp2
  go_ret
  have hq3 : (x : Int) / 2 ^ n = q2 := hq2z
  exact ⟨by first | (rw [hq3, E]; done) | simp [hq3, E], rfl⟩
theorem turned_still (x n : Nat) (N : Int) (w : World) (hN : N = (n : Int)) (hx : x < 4294967296) (h1 : 1 ≤ n) (h2 : n ≤ 31) :
    Calls Tryd.prog 33 #[.int .u32 (x : Int), .int .i64 N] w fun e w' => e = .returned (.int .u32 ((rotN n x : Nat) : Int)) ∧ w' = w := by
  have hc := rot_still x n (wrap64 (-N)) w (by rw [hN]) hx h1 h2
  generalize rotN n x = r at hc ⊢
  generalize (x : Int) = X at hc ⊢
  clear hN hx h1 h2
  go_enter Tryd.func33, Tryd.ntmps33
  go_wp2_with (first | ((with_reducible refine gate_callee (f := 36) rfl ?_); refine goesL_ (some 8) rfl rfl Tryd.func36 (by kernel_rfl) rfl #[.int .u32 X, .int .i64 (wrap64 (-N))] rfl (by (try simp only [List.map_toArray, List.map_cons, List.map_nil]); first | done | rfl | (simp only [List.length_drop, List.length_take]; rfl)) ?_; (with_reducible refine hc.mono ?_); rintro e w' ⟨rfl, rfl⟩; refine ⟨_, rfl, ?_⟩))
  go_ret
  exact ⟨rfl, rfl⟩
set_option maxHeartbeats 8000000 in
theorem rotr_still (x n : Nat) (N : Int) (w : World) (hN : N = (n : Int)) (hx : x < 4294967296) (h1 : 1 ≤ n) (h2 : n ≤ 31) :
    Calls Tryd.prog 35 #[.int .u32 (x : Int), .int .u64 N] w fun e w' => e = .returned (.int .u32 ((rotN n x : Nat) : Int)) ∧ w' = w := by
  subst hN
  have e2 : IntKind.u64.wrap (32 - (n : Int)) = ((32 - n : Nat) : Int) := by unfold IntKind.wrap; simp [IntKind.signed, IntKind.bits]; omega
  have E := rotr_eq x n hx h1 h2
  unfold P.kilnref2_rotr.f at E
  rw [e2, if_pos (by omega), if_pos (by omega)] at E
  replace E := Option.some.inj E
  generalize (rotN n x : Nat) = r at E ⊢
  generalize hm : ((32 - n : Nat) : Int) = m at e2 E
  have hm0 : 0 ≤ m := by omega
  have hm1 : m ≤ 32 := by omega
  have hn0 : 0 ≤ (n : Int) := by omega
  have hn1 : (n : Int) ≤ 32 := by omega
  generalize hq1 : shl .u32 (x : Int) m = q1 at E
  generalize hq2 : shr .u32 (x : Int) (n : Int) = q2 at E
  have hq1_ : (IntKind.u32.wrap ((x : Int) * 2 ^ min (m).toNat 32)) = q1 := hq1
  have hq1z : (IntKind.u32.wrap ((x : Int) * 2 ^ (m).toNat)) = q1 := shl_small hq1 hm1
  have hq2_ : ((x : Int) / 2 ^ min ((n : Int)).toNat 32) = q2 := hq2
  have hq2z : ((x : Int) / 2 ^ ((n : Int)).toNat) = q2 := shr_small hq2 hn1
  have d0 := eq_true hm0
  have d1 : decide (0 ≤ m) = true := decide_eq_true hm0
  have d2 := eq_true hn0
  have d3 : decide (0 ≤ (n : Int)) = true := decide_eq_true hn0
  go_enter Tryd.func35, Tryd.ntmps35
  go_wp2
  go_ret
  have hq3 : (x : Int) / 2 ^ n = q2 := hq2z
  exact ⟨by first | (rw [hq3, E]; done) | simp [hq3, E], rfl⟩

/-! The rounds. -/
def tableL : List Nat := [1116352408, 1899447441, 3049323471, 3921009573, 961987163, 1508970993, 2453635748, 2870763221, 3624381080, 310598401, 607225278, 1426881987, 1925078388, 2162078206, 2614888103, 3248222580, 3835390401, 4022224774, 264347078, 604807628, 770255983, 1249150122, 1555081692, 1996064986, 2554220882, 2821834349, 2952996808, 3210313671, 3336571891, 3584528711, 113926993, 338241895, 666307205, 773529912, 1294757372, 1396182291, 1695183700, 1986661051, 2177026350, 2456956037, 2730485921, 2820302411, 3259730800, 3345764771, 3516065817, 3600352804, 4094571909, 275423344, 430227734, 506948616, 659060556, 883997877, 958139571, 1322822218, 1537002063, 1747873779, 1955562222, 2024104815, 2227730452, 2361852424, 2428436474, 2756734187, 3204031479, 3329325298]
def rnd (s : List Nat) (w k : Nat) : List Nat :=
  let x := addN (addN (addN (addN (get s 7) w) k) (bsig1 (get s 4))) (chN (get s 4) (get s 5) (get s 6))
  let y := addN (bsig0 (get s 0)) (majN (get s 0) (get s 1) (get s 2))
  [addN x y, get s 0, get s 1, get s 2, addN (get s 3) x, get s 4, get s 5, get s 6]
def rnds (h w : List Nat) : Nat → List Nat
  | 0 => h
  | t + 1 => rnd (rnds h w t) (get w t) (get tableL t)
def fin (h s : List Nat) : Nat → List Nat
  | 0 => h
  | i + 1 => (fin h s i).set i (addN (get (fin h s i) i) (get s i))
def overN (h : List Nat) (b : List Int) : List Nat := fin h (rnds h (spreadN b) 64) 8
theorem tableL_lt : W32 tableL := fun i => by
  by_cases h : i < 64
  · have : ∀ j : Fin 64, get tableL j.1 < 4294967296 := by decide
    exact this ⟨i, h⟩
  · unfold get; rw [List.getD_eq_getElem?_getD, List.getElem?_eq_none (by simp [tableL]; omega)]; decide
theorem ch_lt {e f g : Nat} (he : e < 4294967296) (hf : f < 4294967296) (hg : g < 4294967296) : chN e f g < 4294967296 := xor32 (and32 _ he) (and32 _ (xor32 he (by decide)))
theorem maj_lt {a b c : Nat} (ha : a < 4294967296) (hb : b < 4294967296) : majN a b c < 4294967296 := xor32 (xor32 (and32 _ ha) (and32 _ ha)) (and32 _ hb)
theorem W32_eight {a b c d e f g h : Nat} (h0 : a < 4294967296) (h1 : b < 4294967296) (h2 : c < 4294967296) (h3 : d < 4294967296) (h4 : e < 4294967296) (h5 : f < 4294967296) (h6 : g < 4294967296) (h7 : h < 4294967296) : W32 [a, b, c, d, e, f, g, h] := fun i => by
  match i with
  | 0 => exact h0
  | 1 => exact h1
  | 2 => exact h2
  | 3 => exact h3
  | 4 => exact h4
  | 5 => exact h5
  | 6 => exact h6
  | 7 => exact h7
  | (n + 8) => show (0 : Nat) < _; decide
theorem rnd_lt {s : List Nat} (h : W32 s) (w k : Nat) : W32 (rnd s w k) := W32_eight (addN_lt _ _) (h 0) (h 1) (h 2) (addN_lt _ _) (h 4) (h 5) (h 6)
theorem rnds_lt {h : List Nat} (hh : W32 h) (w : List Nat) : ∀ t, W32 (rnds h w t)
  | 0 => hh
  | t + 1 => rnd_lt (rnds_lt hh w t) _ _
theorem rnds_len {h : List Nat} (hh : h.length = 8) (w : List Nat) : ∀ t, (rnds h w t).length = 8
  | 0 => hh
  | t + 1 => rfl
theorem fin_lt {h s : List Nat} (hh : W32 h) : ∀ t, W32 (fin h s t)
  | 0 => hh
  | t + 1 => (fin_lt hh t).set _ (addN_lt _ _)
theorem fin_len {h s : List Nat} : ∀ t, (fin h s t).length = h.length
  | 0 => rfl
  | t + 1 => by rw [fin, List.length_set]; exact fin_len t
theorem overN_lt {h : List Nat} (hh : W32 h) (b : List Int) : W32 (overN h b) := fin_lt hh 8
theorem overN_len {h : List Nat} (hh : h.length = 8) (b : List Int) : (overN h b).length = 8 := (fin_len 8).trans hh
theorem eight_get {s : List Nat} (h : s.length = 8) : s = [get s 0, get s 1, get s 2, get s 3, get s 4, get s 5, get s 6, get s 7] := by
  match s, h with
  | [a, b, c, d, e, f, g, i], _ => rfl
/-- The laid table: its cells. -/
def Tab (w : World) : Prop := ∀ i : Nat, i < 64 → w.cell? ⟨0, i, none⟩ = some (.int .u32 ((get tableL i : Nat) : Int))
theorem Tab.below {w w' : World} (h : Tab w) (hb : Below w.heap.size w w') : Tab w' := fun i hi =>
  (hb.cell (World.block_lt_of_cell? w _ (h i hi))).trans (h i hi)
end Go.Proofs.YthnmpkhjpfhloaaDoor.M
