/- Which of two slots counts, whatever stands in the two sectors, of disks of any size: package root answers as the document does, and takes only Reads; the table of package wire as the program's text lays it. -/
import Derived.Test.YtaflofcnjakaaaaDoorPrZ3
import Derived.Test.YtaflofcnjakaaaaDoorCards
import Derived.Test.YtaflofcnjakaaaaDoorTie
import Derived.WalkKit
import Derived.ProofKit
import Derived.OpenShut
import Derived.ShutString
import Derived.ChangeOld
import Derived.Below
import Derived.SizedLaws
import Derived.Deep.DeepHandedRow
import Derived.Lib.LaidTab
namespace Go.Proofs.YtaflofcnjakaaaaDoor.M
open Go.RowKit Go.Maps Go.Proofs.YtaflofcnjakaaaaDoorW.PrintWords Go.Proofs.YtaflofcnjakaaaaDoorW.PrintLast Go.Proofs.YtaflofcnjakaaaaDoorW.PrintMore Go.Proofs.YtaflofcnjakaaaaDoor.Wr Go.Proofs.YtaflofcnjakaaaaDoor.Pl Go.Proofs.YtaflofcnjakaaaaDoor.Z Go.Proofs.YtaflofcnjakaaaaDoor.A
set_option linter.unusedVariables false
set_option linter.unusedSimpArgs false
structure RdAt (n : Nat) (D : DS) (i : Nat) : Prop where
  n_ : D.n = n
  c : D.c ≤ i
  y : ∀ j, bytes_ (D.cur j)
  l : ∀ j, j < 2 → (D.cur j).length = 512
theorem RdAt.fresh {n : Nat} (h2 : 2 ≤ n) : RdAt n (fD n) 0 :=
  ⟨rfl, Nat.le_refl _, fun j => by
    show bytes_ ((List.replicate n zeros).getD j [])
    exact getD_rep_bytes n j, fun j hj => by
    show ((List.replicate n zeros).getD j []).length = 512
    rw [getD_rep (by omega)]; exact zeros_len⟩
theorem RdAt.put {n : Nat} {D : DS} {i : Nat} (h : RdAt n D i) (p : Nat) {b : List Int} (hb : bytes_ b) (hl : b.length = 512) : RdAt n (D.put p b) (i + 1) :=
  ⟨h.n_, by show D.c + 1 ≤ i + 1; have := h.c; omega, fun j => by
    by_cases hj : j = p
    · subst hj; rw [put_cur]; exact hb
    · rw [put_cur_ne _ _ hj]; exact h.y j, fun j hj2 => by
    by_cases hj : j = p
    · subst hj; rw [put_cur]; exact hl
    · rw [put_cur_ne _ _ hj]; exact h.l j hj2⟩
theorem RdAt.flush {n : Nat} {D : DS} {i : Nat} (h : RdAt n D i) (h2 : 2 ≤ n) : RdAt n D.flush i :=
  ⟨h.n_, Nat.zero_le _, fun j => by
    by_cases hj : j < D.n
    · rw [flush_cur _ hj]; exact h.y j
    · rw [flush_cur_no _ hj]; exact bytes_nil, fun j hj => by
    rw [flush_cur _ (by rw [h.n_]; omega)]; exact h.l j hj⟩
section
variable {w0 W : World} {M : List Th} {n i gd p q : Nat} {b : List Int} {A1 A2 Ae : Option Addr} {c1 c2 ce : Nat} {l1 l2 : List S106} {r wr fl : Int}
theorem g_write {nn : Int} (hnn : nn = (i : Int)) (hi : i < n) (hb : b.length = 512) (hp : l1.length = p) (hq : l2.length = q) (hl : p + q ≤ 1000) (h : Sep w0 W (refT (.slice A1 p c1) (.slice A2 q c2) l1 l2 :: M)) (hC : (Kd.int .u8).C W Ae 512 b) (hc : 512 ≤ ce) :
    Calls Tryd.prog 20 #[.agg #[.int .i64 (n : Int), .slice A1 p c1, .slice A2 q c2, .int .i64 r, .int .i64 wr, .int .i64 fl], .int .i64 nn, .slice Ae 512 ce] W (fun e w' => ∃ A1' c1' A2' c2' wr', e = .returned (.tuple #[.agg #[.int .i64 (n : Int), .slice A1' p c1', .slice A2' (q + 1) c2', .int .i64 r, .int .i64 wr', .int .i64 fl], .int .i64 0]) ∧ Sep w0 w' (refT (.slice A1' p c1') (.slice A2' (q + 1) c2') l1 (l2 ++ [⟨(i : Int), b⟩]) :: M)) := by
  subst hnn hp hq
  have hf := write_ev l1 l2 n i hi r wr fl b hb (by omega) (l2.length + 2) (Nat.le_refl _)
  have h' := Sep.rWrite h (l2.length + 2) (n : Int) r wr fl (i : Int) Ae ce b (n : Int) l1 (l2 ++ [⟨(i : Int), b⟩]) r _ fl 0 (by rw [hb]; exact hC) (by rw [hb]; exact hc) hf
  simp only [List.length_append, List.length_singleton, hb] at h'
  refine h'.mono ?_
  rintro e w' ⟨A1', c1', A2', c2', he, h3⟩
  exact ⟨A1', c1', A2', c2', _, he, h3⟩
theorem g_flush (hp : l1.length = p) (hq : l2.length = q) (hl : p + q ≤ 1000) (h : Sep w0 W (refT (.slice A1 p c1) (.slice A2 q c2) l1 l2 :: M)) :
    Calls Tryd.prog 21 #[.agg #[.int .i64 (n : Int), .slice A1 p c1, .slice A2 q c2, .int .i64 r, .int .i64 wr, .int .i64 fl]] W (fun e w' => ∃ A1' c1' A2' c2' fl', e = .returned (.agg #[.int .i64 (n : Int), .slice A1' (flushR l1 l2).length c1', .slice A2' 0 c2', .int .i64 r, .int .i64 wr, .int .i64 fl']) ∧ Sep w0 w' (refT (.slice A1' (flushR l1 l2).length c1') (.slice A2' 0 c2') (flushR l1 l2) [] :: M)) := by
  subst hp hq
  have hf := flush_ev l1 l2 (n : Int) r wr fl (by omega) _ (Nat.le_refl _)
  have h' := Sep.rFlush h _ (n : Int) r wr fl (n : Int) (flushR l1 l2) [] r wr _ hf
  simp only [List.length_nil] at h'
  refine h'.mono ?_
  rintro e w' ⟨A1', c1', A2', c2', he, h3⟩
  exact ⟨A1', c1', A2', c2', _, he, h3⟩
end
set_option maxHeartbeats 8000000 in
set_option maxRecDepth 100000 in
theorem read_nil {w0 w : World} {M : List Th} (h : Sep w0 w M) : Calls Tryd.prog 28 #[.pointer none] w fun e w' => e = .returned (.tuple #[.agg noSL.V.toArray, .int .i64 1]) ∧ Sep w0 w' M := by
  have hz := (zero_of_info (P := Tryd.prog) (t := 27) (v := .agg noSL.V.toArray) (n := 105) (by kernel_rfl)).1
  have HBZ := Aside0.mk (show Tryd.prog.built 27 [] = some noSL.V.toArray from built27z)
  have HSZ := Aside0.mk (SlAt.sa noSL_ok)
  have HAZ := Aside0.mk (SL.V_all noSL)
  have HSI := Aside0.mk h
  clear h
  generalize noSL.V.toArray = Z at *
  go_enter Tryd.func28, Tryd.ntmps28
  go_upto_region 1 with (fail)
  have HS1 := Aside0.mk (HSI.out.push_alloc Z 27)
  generalize w.alloc (.cells Z 27) = w1 at HS1 ⊢
  generalize w.heap.size = g2 at HS1 ⊢
  clear HSI
  go_wp2_with (first
    | ((with_reducible refine gate_build (ty := 27) rfl ?_); refine wpList_buildTo rfl 27 _ rfl (some 12) rfl Z ?aB ?_; (case aB => (simp only [List.map_toArray, List.map_nil]; exact HBZ.out)))
    | ((with_reducible refine gate_store (ty := 27) rfl ?_); refine Sep.store_own rfl 27 _ _ rfl rfl rfl HS1.out HSZ.out rfl HAZ.out ?_; intro w7 h7; have HS7 := Aside0.mk h7; clear h7))
  refine bodyPost_ret (results_row_tmp (p := 2) (u := 3) (ty := 27) rfl _ _ g2 27 Z (0, 0) _ _ rfl rfl HS7.out.cells.1 Tryd.underlying27 rfl HSZ.out) rfl ⟨rfl, ?_⟩
  exact HS7.out.drop
end Go.Proofs.YtaflofcnjakaaaaDoor.M

namespace Go.Proofs.YtaflofcnjakaaaaDoor.M
open Go.RowKit Go.Maps Go.Proofs.YtaflofcnjakaaaaDoorW.PrintWords Go.Proofs.YtaflofcnjakaaaaDoorW.PrintLast Go.Proofs.YtaflofcnjakaaaaDoorW.PrintMore Go.Proofs.YtaflofcnjakaaaaDoor.Wr Go.Proofs.YtaflofcnjakaaaaDoor.Pl Go.Proofs.YtaflofcnjakaaaaDoor.P Go.Proofs.YtaflofcnjakaaaaDoor.A
set_option linter.unusedVariables false
set_option linter.unusedSimpArgs false
theorem pick_ge (N n : Int) (b s : SL) (e : Int) : b.c ≤ (pickS N n b s e).c := by
  unfold pickS
  split
  · rename_i h; omega
  · exact Int.le_refl _
theorem pick_val {N n : Int} (b : SL) {s : SL} {e : Int} (he : e = 0) (ha : s.a = N) (hp : s.c.tmod 2 = n) : s.c ≤ (pickS N n b s e).c := by
  unfold pickS
  split
  · exact Int.le_refl _
  · rename_i h
    by_cases hx : b.c < s.c
    · exact absurd ⟨he, ha, hp, hx⟩ h
    · omega
theorem best_two (N : Int) (cur : Nat → List Int) : bestJ N cur 2 = pickS N 1 (pickS N 0 startSL (decS (cur 0)) (decE (cur 0))) (decS (cur 1)) (decE (cur 1)) := rfl
theorem best_new {N : Int} {cur cur' : Nat → List Int} {s t : SL} (hb : bestJ N cur 2 = s) (ht : t.Ok) (hm : t.May) (hta : t.a = N) (hc : s.c < t.c) {i : Nat} (hi : i < 2) (hp : t.c.tmod 2 = (i : Int)) (h1 : cur' i = encB t) (h2 : ∀ j, j < 2 → j ≠ i → cur' j = cur j) : bestJ N cur' 2 = t := by
  have hy := decS_yes (dec_enc ht hm)
  have htc := hm.c
  rw [best_two] at hb ⊢
  rcases (show i = 0 ∨ i = 1 by omega) with rfl | rfl
  · rw [h1, h2 1 (by decide) (by decide), hy.1, hy.2]
    have e1 : pickS N 0 startSL t 0 = t := by
      unfold pickS
      rw [if_pos ⟨rfl, hta, hp, by show (-1 : Int) < t.c; omega⟩]
    rw [e1]
    unfold pickS
    rw [if_neg]
    rintro ⟨g1, g2, g3, g4⟩
    have := pick_val (pickS N 0 startSL (decS (cur 0)) (decE (cur 0))) g1 g2 g3
    rw [hb] at this
    omega
  · rw [h1, h2 0 (by decide) (by decide), hy.1, hy.2]
    have g := pick_ge N 1 (pickS N 0 startSL (decS (cur 0)) (decE (cur 0))) (decS (cur 1)) (decE (cur 1))
    rw [hb] at g
    generalize pickS N 0 startSL (decS (cur 0)) (decE (cur 0)) = B at g
    unfold pickS
    rw [if_pos ⟨rfl, hta, hp, by omega⟩]
structure RowAt (N : Nat) (D : DS) (s : SL) : Prop where
  n : D.n = N
  n2 : 40 ≤ N
  L : D.L.length = N
  w : ∀ j, D.W j = []
  c : D.c = 0
  y : ∀ j, bytes_ (D.cur j)
  l : ∀ j, j < 2 → (D.cur j).length = 512
  ok : s.Ok
  may : s.May
  sa : s.a = (N : Int)
  best : bestJ (N : Int) D.cur 2 = s
theorem RowAt.reads {N : Nat} {D : DS} {s : SL} (h : RowAt N D s) : readS (D.n : Int) D.cur = s ∧ readE (D.n : Int) D.cur = 0 := by
  have hc := h.may.c
  unfold readS readE
  rw [h.n, h.best]
  exact ⟨if_neg (by omega), if_neg (by omega)⟩
theorem RowAt.readsJ {N : Nat} {D : DS} {s : SL} (h : RowAt N D s) : RowAt N (D.readsJ 2) s :=
  ⟨h.n, h.n2, h.L, h.w, h.c, h.y, h.l, h.ok, h.may, h.sa, h.best⟩
theorem RowAt.new {N : Nat} {D D' : DS} {s t : SL} (h : RowAt N D s) (ht : t.Ok) (hm : t.May) (hta : t.a = (N : Int)) (hlt : s.c < t.c) {i : Nat} (hi : i < 2) (hp : t.c.tmod 2 = (i : Int)) (hn : D'.n = N) (hL : D'.L.length = N) (hw : ∀ j, D'.W j = []) (hc : D'.c = 0) (hy : ∀ j, bytes_ (D'.cur j)) (h1 : D'.cur i = encB t) (h2 : ∀ j, j < 2 → j ≠ i → D'.cur j = D.cur j) : RowAt N D' t :=
  ⟨hn, h.n2, hL, hw, hc, hy, fun j hj => by
    by_cases hji : j = i
    · subst hji; rw [h1]; exact encB_len ht
    · rw [h2 j hj hji]; exact h.l j hj, ht, hm, hta, best_new h.best ht hm hta hlt hi hp h1 h2⟩
theorem getD_set_ne {α : Type} (l : List α) {i j : Nat} (b d : α) (h : i ≠ j) : (l.set i b).getD j d = l.getD j d := by
  rw [List.getD_eq_getElem?_getD, List.getElem?_set_ne h, ← List.getD_eq_getElem?_getD]
end Go.Proofs.YtaflofcnjakaaaaDoor.M

namespace Go.Proofs.YtaflofcnjakaaaaDoor.M
open Go.RowKit Go.Maps Go.Proofs.YtaflofcnjakaaaaDoorW.PrintWords Go.Proofs.YtaflofcnjakaaaaDoorW.PrintLast Go.Proofs.YtaflofcnjakaaaaDoorW.PrintMore Go.Proofs.YtaflofcnjakaaaaDoor.Wr Go.Proofs.YtaflofcnjakaaaaDoor.Pl Go.Proofs.YtaflofcnjakaaaaDoor.P Go.Proofs.YtaflofcnjakaaaaDoor.A
set_option linter.unusedVariables false
set_option linter.unusedSimpArgs false
theorem and15 (n : Int) : bits .and .i64 n 15 = n % 16 := by
  have h127 : (BitVec.ofInt 64 15).toNat = 2 ^ 4 - 1 := by decide
  have key : (BitVec.ofInt 64 n &&& BitVec.ofInt 64 15).toNat = (n % ((2 ^ 64 : Nat) : Int)).toNat % 2 ^ 4 := by
    rw [BitVec.toNat_and, BitVec.toNat_ofInt, h127, Nat.and_two_pow_sub_one_eq_mod]
  show IntKind.i64.wrap ((BitVec.ofInt 64 n &&& BitVec.ofInt 64 15).toNat : Nat) = n % 16
  rw [key, IntKind.wrap_i64]
  omega
theorem and1' (n : Int) : bits .and .i64 n 1 = n % 2 := by
  have h127 : (BitVec.ofInt 64 1).toNat = 2 ^ 1 - 1 := by decide
  have key : (BitVec.ofInt 64 n &&& BitVec.ofInt 64 1).toNat = (n % ((2 ^ 64 : Nat) : Int)).toNat % 2 ^ 1 := by
    rw [BitVec.toNat_and, BitVec.toNat_ofInt, h127, Nat.and_two_pow_sub_one_eq_mod]
  show IntKind.i64.wrap ((BitVec.ofInt 64 n &&& BitVec.ofInt 64 1).toNat : Nat) = n % 2
  rw [key, IntKind.wrap_i64]
  omega
end Go.Proofs.YtaflofcnjakaaaaDoor.M

namespace Go.Proofs.YtaflofcnjakaaaaDoor.M
open Go.RowKit Go.Maps Go.Proofs.YtaflofcnjakaaaaDoorW.PrintWords Go.Proofs.YtaflofcnjakaaaaDoorW.PrintLast Go.Proofs.YtaflofcnjakaaaaDoorW.PrintMore Go.Proofs.YtaflofcnjakaaaaDoor.Wr Go.Proofs.YtaflofcnjakaaaaDoor.Pl Go.Proofs.YtaflofcnjakaaaaDoor.Z Go.Proofs.YtaflofcnjakaaaaDoor.A
set_option linter.unusedVariables false
set_option linter.unusedSimpArgs false
def rr12_T : Bool × List (List Nat × List Nat) := (true, [([], []), ([], []), ([], []), ([], []), ([2, 3], [2, 3]), ([4], [4]), ([5], [5]), ([0, 1, 6, 6], [0, 1, 6]), ([7], [7]), ([8], [8]), ([8], [8]), ([9, 7, 0, 1, 2, 3, 4, 5, 6, 7, 8, 9], [9])])
def rr12_B : List Nat := [0, 0, 0, 0, 12, 28, 60, 127, 255, 511, 511, 1023]
theorem rr12_tab : rtab .any (opsOf Tryd.f5 12) = rr12_T := by kernel_rfl
theorem rr12_bits : waitsOk rr12_T.2 rr12_B = true := by kernel_rfl
theorem size43r : (Tryd.prog.info? 43).map (·.size) = some 6 := by kernel_rfl
set_option maxHeartbeats 8000000 in
set_option maxRecDepth 100000 in
theorem rd_out (x : Int) (hx : ¬ (2 ≤ x ∧ x ≤ 65536)) (A : Option Addr) (l c : Nat) (w : World) : Calls Tryd.prog 5 #[.int .i64 x, .slice A l c] w fun e w' => e = .returned (.bool true) ∧ Below w.heap.size w w' := by
  have HN := Aside0.mk (fun W => new_none x W hx)
  have HR := Aside0.mk (fun W (L : List Th) (h : Sep w W L) => Sep.rNew h x 0 [] [] 0 0 0 30 (ref_new_no x (by omega)))
  clear hx
  go_enter Tryd.func5, Tryd.ntmps5
  go_upto_region 3 with (first
    | (go_at_call 15; (with_reducible refine (HN.out _).mono ?_); rintro e w2 ⟨rfl, rfl⟩)
    | (go_at_call 16; (with_reducible refine (HR.out _ _ (Sep.refl _)).mono ?_); rintro e w3 ⟨A1, c1, A2, c2, rfl, h⟩; have HS2 := Aside0.mk h; clear h))
  have HB := Aside0.mk (below_alloc HS2.out.below (.cells #[.int .i64 0, .slice A1 0 c1, .slice A2 0 c2, .int .i64 0, .int .i64 0, .int .i64 0] 43))
  clear HN HR HS2
  generalize w3.alloc (.cells #[.int .i64 0, .slice A1 0 c1, .slice A2 0 c2, .int .i64 0, .int .i64 0, .int .i64 0] 43) = w4 at HB ⊢
  by_cases hb : 4096 < x
  · have tb : decide (4096 < x) = true := decide_eq_true hb
    go_wp2
    go_ret
    exact ⟨rfl, HB.out⟩
  · have tb : decide (4096 < x) = false := decide_eq_false hb
    go_wp2
    go_ret
    exact ⟨rfl, HB.out⟩
set_option maxHeartbeats 8000000 in
set_option maxRecDepth 100000 in
theorem rd_big (n : Nat) (h2 : 2 ≤ n) (hm : n ≤ 65536) (hb : 4096 < n) (A : Option Addr) (l c : Nat) (w0 : World) : Calls Tryd.prog 5 #[.int .i64 (n : Int), .slice A l c] w0 fun e w' => e = .returned (.bool true) ∧ Below w0.heap.size w0 w' := by
  have HN := Aside0.mk (fun W (M : List Th) (h : Sep w0 W M) => (show Calls Tryd.prog 15 #[.int .i64 (n : Int)] W (fun e w' => ∃ g, e = .returned (.tuple #[.pointer (some ⟨g, 0, none⟩), .int .i64 0]) ∧ Sep w0 w' (dkT g (fD n) :: M)) from Sep.new h n h2 (by omega)))
  have HR := Aside0.mk (fun W (M : List Th) (h : Sep w0 W M) => Sep.rNew h (n : Int) (n : Int) [] [] 0 0 0 0 (ref_new_f n h2 (by omega)))
  have hb1 : (4096 : Int) < (n : Int) := by omega
  clear h2 hm hb
  go_enter Tryd.func5, Tryd.ntmps5
  have HS0 := Aside0.mk (Sep.refl w0)
  go_upto_region 3 with (first
    | (go_at_call 15; (with_reducible refine (HN.out _ _ HS0.out).mono ?_); rintro e w2 ⟨gd, rfl, h⟩; have HS1 := Aside0.mk h; clear h HS0)
    | (go_at_call 16; (with_reducible refine (HR.out _ _ HS1.out).mono ?_); rintro e w3 ⟨A1, c1, A2, c2, rfl, h⟩; have HS2 := Aside0.mk h; clear h HS1))
  have HS3 := Aside0.mk (HS2.out.push_alloc #[.int .i64 (n : Int), .slice A1 0 c1, .slice A2 0 c2, .int .i64 0, .int .i64 0, .int .i64 0] 43)
  clear HN HR HS2
  generalize w3.alloc (.cells #[.int .i64 (n : Int), .slice A1 0 c1, .slice A2 0 c2, .int .i64 0, .int .i64 0, .int .i64 0] 43) = w4 at HS3 ⊢
  generalize w3.heap.size = gw at HS3 ⊢
  go_wp2
  go_ret
  exact ⟨rfl, HS3.out.below⟩
set_option maxHeartbeats 16000000 in
set_option maxRecDepth 100000 in
theorem rd_yes {w0 : World} (hH : Wr.Half w0) (n : Nat) (h2 : 2 ≤ n) (h4 : n ≤ 4096) (A : Option Addr) (row : List T61) (c : Nat) (hC : Kd.C k61 w0 A row.length row) (hraw : ∀ y ∈ row, bytes_ y.raw) : Calls Tryd.prog 5 #[.int .i64 (n : Int), .slice A row.length c] w0 fun e w' => e = .returned (.bool true) ∧ Below w0.heap.size w0 w' := by
  have HN := Aside0.mk (fun W (M : List Th) (h : Sep w0 W M) => (show Calls Tryd.prog 15 #[.int .i64 (n : Int)] W (fun e w' => ∃ g, e = .returned (.tuple #[.pointer (some ⟨g, 0, none⟩), .int .i64 0]) ∧ Sep w0 w' (dkT g (fD n) :: M)) from Sep.new h n h2 (by omega)))
  have HR := Aside0.mk (fun W (M : List Th) (h : Sep w0 W M) => Sep.rNew h (n : Int) (n : Int) [] [] 0 0 0 0 (ref_new_f n h2 (by omega)))
  have h41 : (n : Int) ≤ 4096 := by omega
  have HHH := Aside0.mk hH
  have HNB := Aside0.mk (And.intro h2 h4)
  have HC := Aside0.mk hC
  have HRW := Aside0.mk hraw
  clear h2 h4 hH hC hraw
  go_enter Tryd.func5, Tryd.ntmps5
  have HS0 := Aside0.mk (Sep.refl w0)
  go_upto_region 3 with (first
    | (go_at_call 15; (with_reducible refine (HN.out _ _ HS0.out).mono ?_); rintro e w2 ⟨gd, rfl, h⟩; have HS1 := Aside0.mk h; clear h HS0)
    | (go_at_call 16; (with_reducible refine (HR.out _ _ HS1.out).mono ?_); rintro e w3 ⟨A1, c1, A2, c2, rfl, h⟩; have HS2 := Aside0.mk h; clear h HS1))
  have HS3 := Aside0.mk (HS2.out.push_alloc #[.int .i64 (n : Int), .slice A1 0 c1, .slice A2 0 c2, .int .i64 0, .int .i64 0, .int .i64 0] 43)
  clear HN HR HS2
  generalize w3.alloc (.cells #[.int .i64 (n : Int), .slice A1 0 c1, .slice A2 0 c2, .int .i64 0, .int .i64 0, .int .i64 0] 43) = w4 at HS3 ⊢
  generalize w3.heap.size = gw at HS3 ⊢
  go_upto_region 7 with (fail)
  have HSk := Aside0.mk (show Sep w0 w4 (cellsT gw #[.int .i64 (n : Int), .slice A1 0 c1, .slice A2 0 c2, .int .i64 0, .int .i64 0, .int .i64 0] 43 :: refT (.slice A1 0 c1) (.slice A2 0 c2) [] [] :: dkT gd (fD n) :: []) from HS3.out)
  clear HS3
  go_upto_region 8 with (fail)
  go_loopg [9] 8 (fun kq v9 wr => ∃ (i : Nat) (D : DS) (A1 A2 : Option Addr) (c1 c2 p q : Nat) (l1 l2 : List S106) (r wr1 fl : Int), v9 = .int .i64 i ∧ Aside0 (i + kq = 8) ∧ Aside0 (RdAt n D i ∧ Rl D l1 l2 ∧ l1.length = p ∧ l2.length = q ∧ p + q ≤ i) ∧ Aside0 (Sep w0 wr (cellsT gw #[.int .i64 (n : Int), .slice A1 p c1, .slice A2 q c2, .int .i64 r, .int .i64 wr1, .int .i64 fl] 43 :: refT (.slice A1 p c1) (.slice A2 q c2) l1 l2 :: dkT gd D :: [])))
  case atStart => exact ⟨0, fD n, A1, A2, c1, c2, 0, 0, [], [], 0, 0, 0, rfl, ⟨rfl⟩, ⟨RdAt.fresh HNB.out.1, Rl.fresh n, rfl, rfl, Nat.le_refl _⟩, HSk⟩
  case round =>
    clear HSk
    obtain ⟨i, D, A1, A2, c1, c2, p, q, l1, l2, r, wr1, fl, rfl, HJ, HD, hS⟩ := hrel
    by_cases hg : i < row.length ∧ i < 8
    · obtain ⟨hi, h8⟩ := hg
      have hi1 : (i : Int) < (row.length : Int) := by omega
      have hi2 : (i : Int) < 8 := by omega
      have t0 : decide ((i : Int) < (row.length : Int)) = true := decide_eq_true hi1
      have t1 : decide ((i : Int) < 8) = true := decide_eq_true hi2
      obtain ⟨hs, ad, A3, c3, rfl, hcell, l3, g3⟩ := at_T61 HC.out i hi
      have hTr : bytes_ (row.getD i z61).raw := HRW.out _ (by rw [List.getD_eq_getElem?_getD, List.getElem?_eq_getElem hi]; exact List.getElem_mem hi)
      generalize row.getD i z61 = T at hs hcell l3 g3 hTr
      have HBY := Aside0.mk (fun W (N : List Th) (h : Sep w0 W N) => Sep.bytesP (L := []) h T hs A3 c3 (fun W N _ h => Kd.C_below g3 h.below) ⟨N, by simp⟩ hTr l3)
      have HBL := Aside0.mk (bytB_len hs)
      have HBB := Aside0.mk (bytB_bytes hs hTr)
      have HPC := Aside0.mk (fun W (hb : Below w0.heap.size w0 W) => (show ∀ j v, (putC T A3 c3).toArray.toList[j]? = some v → W.cell? ((ad.add (i * 108)).add j) = some v from fun j v hv => by
        rw [Addr.add_add]
        exact pw_cell_below hb (hcell j v (by simpa using hv))))
      have HP0 := Aside0.mk (fun W (hb : Below w0.heap.size w0 W) => (show W.cell? (ad.add (i * 108)) = some (.int .i64 T.f0) from by
        have := pw_cell_below hb (hcell 0 (.int .i64 T.f0) rfl)
        rwa [Nat.add_zero] at this))
      have HSZP := Aside0.mk (show (Tryd.prog.info? 61).map (·.size) = some (putC T A3 c3).toArray.size from by
        rw [show (putC T A3 c3).toArray.size = 108 by simpa using putC_len hs A3 c3]; kernel_rfl)
      clear hs hcell l3 g3 hTr
      generalize (putC T A3 c3).toArray = PC at HBY HPC HSZP
      have aa := and1' T.f0
      obtain ⟨pn', hpn2, hpn⟩ : ∃ pn' : Nat, pn' < 2 ∧ T.f0 % 2 = (pn' : Int) := ⟨(T.f0 % 2).toNat, by omega, by omega⟩
      generalize T.f0 % 2 = pn at aa hpn
      have HPN := Aside0.mk (And.intro hpn2 hpn)
      have HGW := Aside0.mk (fun W (M : List Th) A1 c1 A2 c2 r wr fl Ae ce (h : Sep w0 W (refT (.slice A1 p c1) (.slice A2 q c2) l1 l2 :: M)) (hC : (Kd.int .u8).C W Ae 512 (bytB T)) (hc : 512 ≤ ce) => g_write (n := n) (r := r) (wr := wr) (fl := fl) HPN.out.2 (by have := HPN.out.1; have := HNB.out.1; omega) HBL.out HD.out.2.2.1 HD.out.2.2.2.1 (by have := HD.out.2.2.2.2; omega) h hC hc)
      have HDW := Aside0.mk (fun W (M : List Th) v (h : Sep w0 W (ownT (Kd.int .u8) 5 v (bytB T) :: dkT gd D :: M)) => (show Calls Tryd.prog 25 #[.pointer (some ⟨gd, 0, none⟩), .int .i64 pn, v] W (fun e w' => e = .returned (.int .i64 0) ∧ Sep w0 w' (ownT (Kd.int .u8) 5 v (bytB T) :: dkT gd (D.put pn' (bytB T)) :: M)) from by
        rw [HPN.out.2]
        exact Sep.write_own v (bytB T) h pn' (by rw [HD.out.1.n_]; have := HPN.out.1; have := HNB.out.1; omega) (by have := HD.out.1.c; omega) HBL.out))
      have HD2 := Aside0.mk (show RdAt n (D.put pn' (bytB T)) (i + 1) ∧ Rl (D.put pn' (bytB T)) l1 (l2 ++ [⟨(pn' : Int), bytB T⟩]) from ⟨HD.out.1.put pn' HBB.out HBL.out, HD.out.2.1.put pn' (by rw [HD.out.1.n_]; have := HPN.out.1; have := HNB.out.1; omega) (bytB T) HBL.out⟩)
      clear hpn hpn2
      have hx1 := HP0.out wr hS.out.below
      go_upto_region 11 with (fail)
      clear hx1
      go_upto_region 12 with (first
        | ((with_reducible refine gate_load (ty := 61) rfl ?_); refine wpList_ldw ?_ 61 _ rfl (ad.add (i * 108)) ?_ PC _ (HPC.out _ hS.out.below) Tryd.underlying61 rfl HSZP.out ?_; exact rfl; exact rfl; skip)
        | (go_at_call 26; (with_reducible refine (HBY.out _ _ hS.out).mono ?_); rintro e wa ⟨Ab, cb, rfl, hcb, h⟩; have HSa := Aside0.mk h; clear h hcb)
        | (go_at_call 25; (with_reducible refine (HDW.out _ _ _ (HSa.out.sel 4 [0, 3, 1, 2] _ rfl (by decide) rfl)).mono ?_); rintro e wx ⟨rfl, h⟩; have HSx := Aside0.mk h; clear h))
      have HSv := Aside0.mk (show Sep w0 wx (refT (.slice A1 p c1) (.slice A2 q c2) l1 l2 :: cellsT gw #[.int .i64 (n : Int), .slice A1 p c1, .slice A2 q c2, .int .i64 r, .int .i64 wr1, .int .i64 fl] 43 :: dkT gd (D.put pn' (bytB T)) :: []) from HSx.out.sel 4 [3, 2, 1] _ rfl (by decide) rfl)
      have HSy := Aside0.mk (HSv.out.step (below_drew1 (Below.refl wx.heap.size wx)))
      clear HSv HSx HSa hS
      refine start_ (n := 12) (S := fun W => (W.cell? ⟨gw, 0, none⟩ = some (.int .i64 (n : Int)) ∧ W.cell? ⟨gw, 1, none⟩ = some (.slice A1 p c1) ∧ W.cell? ⟨gw, 2, none⟩ = some (.slice A2 q c2) ∧ W.cell? ⟨gw, 3, none⟩ = some (.int .i64 r) ∧ W.cell? ⟨gw, 4, none⟩ = some (.int .i64 wr1) ∧ W.cell? ⟨gw, 5, none⟩ = some (.int .i64 fl)) ∧ (∀ j v, PC.toList[j]? = some v → W.cell? ((ad.add (i * 108)).add j) = some v)) (ds := [11]) (bb 12 0) (by kernel_rfl) rfl rfl (⟨rf_held HSy.out.up1, HPC.out _ HSy.out.below⟩) (fun hHeld => ?_); refine with_tabW rr12_tab rr12_bits (fun HT_ HW_ => ?_)
      generalize wx.drew = wd at hHeld HSy ⊢
      refine take_ (i := 0) (N := (some 66)) (v := ?_) (a' := ?_) (bb 12 1) rfl rfl (take_ofW HT_.out HW_.out (by kernel_rfl)) (fun _ _ _ h => h) (Or.inl ⟨by rfl, ?_⟩) hHeld ?_ ?_
      rotate_left
      · intro w' s0
        (try dsimp only at s0)
        go_simp
        with_reducible rfl
      rotate_left
      · simp only [Act.put, List.setIfInBounds_toArray, List.set_cons_zero, List.set_cons_succ, i64_w, i32_w]
        rfl
      refine pure_ (i := 1) (N := (some 67)) (v := ?_) (a' := ?_) (bb 12 3) rfl rfl (any_of HT_.out (by kernel_rfl)) (fun _ _ _ h => h) (Or.inl ⟨by rfl, ?_⟩) ?_ ?_
      rotate_left
      · intro w'
        go_simp
        with_reducible rfl
      rotate_left
      · simp only [Act.put, List.setIfInBounds_toArray, List.set_cons_zero, List.set_cons_succ, i64_w, i32_w]
        rfl
      refine pure_ (i := 2) (N := (some 68)) (v := ?_) (a' := ?_) (bb 12 7) rfl rfl (any_of HT_.out (by kernel_rfl)) (fun _ _ _ h => h) (Or.inl ⟨by rfl, ?_⟩) ?_ ?_
      rotate_left
      · intro w'
        go_simp
        with_reducible rfl
      rotate_left
      · simp only [Act.put, List.setIfInBounds_toArray, List.set_cons_zero, List.set_cons_succ, i64_w, i32_w]
        rfl
      refine pure_ (i := 3) (N := (some 69)) (v := ?_) (a' := ?_) (bb 12 15) rfl rfl (any_of HT_.out (by kernel_rfl)) (fun _ _ _ h => h) (Or.inl ⟨by rfl, ?_⟩) ?_ ?_
      rotate_left
      · intro w'
        go_simp
        with_reducible rfl
      rotate_left
      · simp only [Act.put, List.setIfInBounds_toArray, List.set_cons_zero, List.set_cons_succ, i64_w, i32_w]
        rfl
      refine pure_ (i := 4) (N := (some 70)) (v := ?_) (a' := ?_) (bb 12 31) rfl rfl (any_of HT_.out (by kernel_rfl)) (fun _ _ _ h => h) (Or.inl ⟨by rfl, ?_⟩) ?_ ?_
      rotate_left
      · intro w'
        go_simp
        with_reducible rfl
      rotate_left
      · simp only [Act.put, List.setIfInBounds_toArray, List.set_cons_zero, List.set_cons_succ, i64_w, i32_w]
        rfl
      refine take_ (i := 5) (N := (some 71)) (v := .agg PC) (a' := ?_) (bb 12 63) rfl rfl (take_ofW HT_.out HW_.out (by kernel_rfl)) (fun _ _ _ h => h) (Or.inl ⟨by rfl, fun w' s0 => yields_ld 61 _ rfl (ad.add (i * 108)) rfl PC _ s0.2 Tryd.underlying61 rfl HSZP.out⟩) hHeld ?_ ?_
      rotate_left
      · simp only [Act.put, List.setIfInBounds_toArray, List.set_cons_zero, List.set_cons_succ, i64_w, i32_w]
        rfl
      refine one_ (i := 6) (N := (some 72)) (bb 12 127) rfl rfl (one_of HT_.out (by kernel_rfl)) (by decide) (fun K hK => ?_)
      refine goes_ Tryd.func26 (by kernel_rfl) rfl #[.agg PC] (by rfl) rfl rfl (by (try simp only [List.map_toArray, List.map_cons, List.map_nil]); first | done | rfl) ?_
      with_reducible refine (HBY.out _ _ HSy.out).mono ?_
      rintro e wa ⟨Ab, cb, rfl, hcb, h⟩
      have HCB := Aside0.mk hcb
      have HSa := Aside0.mk h
      clear h hcb
      refine ⟨_, rfl, ?_⟩
      refine hK.out _ _ (⟨rf_held HSa.out.up2, HPC.out _ HSa.out.below⟩) (fun hHeld => ?_)
      clear hK K
      refine norm_ (a' := ?_) ?_ ?_
      rotate_left
      · show Act.put _ (some 72) _ = _
        simp only [Act.put, List.setIfInBounds_toArray, List.set_cons_zero, List.set_cons_succ, i64_w, i32_w]
        rfl
      refine one_ (i := 7) (N := (some 73)) (bb 12 255) rfl rfl (one_of HT_.out (by kernel_rfl)) (by decide) (fun K hK => ?_)
      refine goes_ Tryd.func20 (by kernel_rfl) rfl #[.agg #[.int .i64 (n : Int), .slice A1 p c1, .slice A2 q c2, .int .i64 r, .int .i64 wr1, .int .i64 fl], .int .i64 pn, .slice Ab 512 cb] (by rfl) rfl rfl (by (try simp only [List.map_toArray, List.map_cons, List.map_nil]); first | done | rfl) ?_
      have HC5 := Aside0.mk (show (Kd.int .u8).C wa Ab 512 (bytB T) from by have := HSa.out.own_C.1; rwa [HBL.out] at this)
      with_reducible refine (HGW.out _ _ _ _ _ _ _ _ _ _ _ HSa.out.up1 HC5.out HCB.out).mono ?_
      rintro e wb ⟨B1, d1, B2, d2, wr2, rfl, h⟩
      have HSb := Aside0.mk h
      clear h
      refine ⟨_, rfl, ?_⟩
      refine hK.out _ _ (⟨rf_held HSb.out.up2, HPC.out _ HSb.out.below⟩) (fun hHeld => ?_)
      clear hK K
      refine norm_ (a' := ?_) ?_ ?_
      rotate_left
      · show Act.put _ (some 73) _ = _
        simp only [Act.put, List.setIfInBounds_toArray, List.set_cons_zero, List.set_cons_succ, i64_w, i32_w]
        rfl
      refine pure_ (i := 8) (N := (some 65)) (v := ?_) (a' := ?_) (bb 12 511) rfl rfl (any_of HT_.out (by kernel_rfl)) (fun _ _ _ h => h) (Or.inl ⟨by rfl, ?_⟩) ?_ ?_
      rotate_left
      · intro w'
        go_simp
        with_reducible rfl
      rotate_left
      · simp only [Act.put, List.setIfInBounds_toArray, List.set_cons_zero, List.set_cons_succ, i64_w, i32_w]
        rfl
      refine pure_ (i := 9) (N := (some 74)) (v := ?_) (a' := ?_) (bb 12 1023) rfl rfl (any_of HT_.out (by kernel_rfl)) (fun _ _ _ h => h) (Or.inl ⟨by rfl, ?_⟩) ?_ ?_
      rotate_left
      · intro w'
        go_simp
        with_reducible rfl
      rotate_left
      · simp only [Act.put, List.setIfInBounds_toArray, List.set_cons_zero, List.set_cons_succ, i64_w, i32_w]
        rfl
      refine pure_ (i := 10) (N := (some 75)) (v := ?_) (a' := ?_) (bb 12 2047) rfl rfl (any_of HT_.out (by kernel_rfl)) (fun _ _ _ h => h) (Or.inl ⟨by rfl, ?_⟩) ?_ ?_
      rotate_left
      · intro w'
        go_simp
        with_reducible rfl
      rotate_left
      · simp only [Act.put, List.setIfInBounds_toArray, List.set_cons_zero, List.set_cons_succ, i64_w, i32_w]
        rfl
      refine last_ (i := 11) (N := none) (bb 12 4095) rfl rfl (one_of HT_.out (by kernel_rfl)) (by decide) (fun K hK => ?_)
      rw [if_pos (by rfl)]
      refine Sep.store_wp (cs := #[.int .i64 (n : Int), .slice B1 p d1, .slice B2 (q + 1) d2, .int .i64 r, .int .i64 wr2, .int .i64 fl]) 43 _ _ rfl rfl rfl HSb.out.up2 size43r rfl (all43 _ _ _ _ _ _ _ _ _ _) (fun wS h4 => ?_)
      have HSc := Aside0.mk h4
      clear h4
      refine hK.out _ _ ?_
      clear hK K
      refine norm_ (a' := ?_) ?_ ?_
      rotate_left
      · show Act.put _ none _ = _
        simp only [Act.put, List.setIfInBounds_toArray, List.set_cons_zero, List.set_cons_succ, i64_w, i32_w]
        rfl
      refine done_ (done_of HT_.out (by kernel_rfl)) ?_
      have HSd := Aside0.mk (show Sep w0 wS (cellsT gw #[.int .i64 (n : Int), .slice B1 p d1, .slice B2 (q + 1) d2, .int .i64 r, .int .i64 wr2, .int .i64 fl] 43 :: refT (.slice B1 p d1) (.slice B2 (q + 1) d2) l1 (l2 ++ [⟨(pn' : Int), bytB T⟩]) :: dkT gd (D.put pn' (bytB T)) :: []) from HSc.out.sel 4 [0, 1, 3] _ rfl (by decide) rfl)
      clear hHeld HT_ HW_ HSy HSa HSb HSc HC5 HCB HGW HDW HBY HPC HP0 HSZP aa
      have HL2 := Aside0.mk (show l1.length = p ∧ (l2 ++ [(⟨(pn' : Int), bytB T⟩ : S106)]).length = q + 1 ∧ p + (q + 1) ≤ i + 1 from ⟨HD.out.2.2.1, by rw [List.length_append, HD.out.2.2.2.1]; rfl, by have := HD.out.2.2.2.2; omega⟩)
      have HI8 := Aside0.mk h8
      generalize l2 ++ [⟨(pn' : Int), bytB T⟩] = l2' at *
      generalize D.put pn' (bytB T) = D' at *
      by_cases h3 : i = 3
      · subst h3
        obtain ⟨y0, y1, y2, y3, y4, y5⟩ := rf_held HSd.out
        go_upto_region 15 with (go_at_call 27; (with_reducible refine (Sep.flush HSd.out.up2).mono ?_); rintro e we ⟨⟨ve, rfl⟩, h⟩; have HSe := Aside0.mk h; clear h)
        clear y0 y1 y2 y3 y4 y5 HSd
        obtain ⟨y0, y1, y2, y3, y4, y5⟩ := rf_held HSe.out.up1
        go_wp2_with (first
          | (go_at_call 21; (with_reducible refine (g_flush HL2.out.1 HL2.out.2.1 (by have := HL2.out.2.2; omega) HSe.out.up2).mono ?_); rintro e wf ⟨E1, f1, E2, f2, fl2, rfl, h⟩; have HSf := Aside0.mk h; clear h)
          | ((with_reducible refine gate_store (ty := 43) rfl ?_); refine Sep.store_own (cs := #[.int .i64 (n : Int), .slice E1 (flushR l1 l2').length f1, .slice E2 0 f2, .int .i64 r, .int .i64 wr2, .int .i64 fl2]) rfl 43 _ _ rfl rfl rfl HSf.out.up2 size43r rfl (all43 _ _ _ _ _ _ _ _ _ _) ?_; intro wg h; have HSg := Aside0.mk h; clear h))
        go_roundg (gk - 1)
        case measure => have := HJ.out; omega
        case rel => exact ⟨4, D'.flush, E1, E2, f1, f2, _, 0, flushR l1 l2', [], r, wr2, fl2, rfl, ⟨by have := HJ.out; omega⟩, ⟨HD2.out.1.flush HNB.out.1, HD2.out.2.flush, rfl, rfl, by have := flushR_len l1 l2'; have := HL2.out; omega⟩, ⟨HSg.out.sel 3 [0, 1, 2] _ rfl (by decide) rfl⟩⟩
      · have h3' : ¬ (i : Int) = 3 := by omega
        have t3 : decide ((i : Int) = 3) = false := decide_eq_false h3'
        have t4 : ((i : Int) == 3) = false := by simpa using h3'
        go_wp2
        go_roundg (gk - 1)
        case measure => have := HJ.out; have := HI8.out; omega
        case rel => exact ⟨i + 1, D', B1, B2, d1, d2, p, q + 1, l1, l2', r, wr2, fl, rfl, ⟨by have := HJ.out; have := HI8.out; omega⟩, ⟨HD2.out.1, HD2.out.2, HL2.out.1, HL2.out.2.1, HL2.out.2.2⟩, HSd⟩
    · by_cases hi : i < row.length
      · have h8 : ¬ (i : Int) < 8 := by omega
        have t1 : decide ((i : Int) < 8) = false := decide_eq_false h8
        have hi1 : (i : Int) < (row.length : Int) := by omega
        have t0 : decide ((i : Int) < (row.length : Int)) = true := decide_eq_true hi1
        clear hg
        have HAC := Aside0.mk (fun W (M : List Th) (E : DS) (h : Sep w0 W (dkT gd E :: M)) => Sep.acts h)
        have HRD := Aside0.mk (fun W (M : List Th) (h : Sep w0 W (dkT gd D :: M)) => (show Calls Tryd.prog 28 #[.pointer (some ⟨gd, 0, none⟩)] W (fun e w' => e = .returned (.tuple #[.agg (readS (n : Int) D.cur).V.toArray, .int .i64 (readE (n : Int) D.cur)]) ∧ Sep w0 w' (dkT gd (D.readsJ 2) :: M)) from by
          have hk := Sep.readSlot h HHH.out (by rw [HD.out.1.n_]; exact HNB.out.1) HD.out.1.y HD.out.1.l
          rwa [HD.out.1.n_] at hk))
        have HR8 := Aside0.mk (fun W (M : List Th) (h : Sep w0 W (refT (.slice A1 p c1) (.slice A2 q c2) l1 l2 :: M)) => Sep.read18 (r := r) (wr := wr1) (fl := fl) h HD.out.2.1 HD.out.1.n_ HD.out.2.2.1 HD.out.2.2.2.1 (by have := HD.out.2.2.2.2; have := HJ.out; omega) HNB.out.1 HD.out.1.l HD.out.1.y)
        have HRN := Aside0.mk (fun W (M : List Th) (h : Sep w0 W M) => read_nil h)
        have hok : (readS (n : Int) D.cur).Ok := by
          unfold readS
          split
          · exact noSL_ok
          · exact bestJ_ok HD.out.1.y 2
        have HSZ := Aside0.mk (SlAt.sa hok)
        have HVA := Aside0.mk (SL.V_all (readS (n : Int) D.cur))
        have HEQ := Aside0.mk (fun W => eql_slot hok W)
        have hz := (zero_of_info (P := Tryd.prog) (t := 27) (v := .agg noSL.V.toArray) (n := 105) (by kernel_rfl)).1
        have HZV := Aside0.mk (show noSL.V.toArray.size = (readS (n : Int) D.cur).V.toArray.size from by simp only [List.size_toArray]; rw [SL.V_len noSL_ok, SL.V_len hok])
        have HSN := Aside0.mk (SlAt.sa noSL_ok)
        have HAN := Aside0.mk (SL.V_all noSL)
        have HLV := Aside0.mk (fun W (M : List Th) g (h : Sep w0 W (cellsT g (readS (n : Int) D.cur).V.toArray 27 :: M)) => (show ∀ j v, (readS (n : Int) D.cur).V.toArray.toList[j]? = some v → W.cell? ((⟨g, 0, none⟩ : Addr).add j) = some v from fun j v hv => seg_at h.cells.1 0 (readS (n : Int) D.cur).V (by rw [List.drop_zero]; exact List.take_of_length_le (Nat.le_refl _)) j v (by simpa using hv)))
        have HDr := Aside0.mk (show (D.readsJ 2).wr = D.wr ∧ (D.readsJ 2).fl = D.fl from ⟨rfl, rfl⟩)
        have HS := hS
        clear hok hS
        generalize (readS (n : Int) D.cur).V.toArray = V at HRD HR8 HSZ HVA HEQ HZV HLV
        generalize readE (n : Int) D.cur = re at HRD HR8
        generalize noSL.V.toArray = Z at hz HZV HRN HSN HAN
        generalize D.readsJ 2 = D2 at *
        go_upto_region 17 with (go_at_call 18; (with_reducible refine (HAC.out _ _ _ HS.out.up2).mono ?_); rintro e wa ⟨rfl, h⟩; have HSa := Aside0.mk h; clear h HS)
        have HSb := Aside0.mk (HSa.out.push_alloc #[.int .i64 D.r, .int .i64 D.wr, .int .i64 D.fl] 41)
        clear HSa
        generalize wa.alloc (.cells #[.int .i64 D.r, .int .i64 D.wr, .int .i64 D.fl] 41) = wb at HSb ⊢
        generalize wa.heap.size = ga at HSb ⊢
        go_upto_region 18 with (first
          | (go_at_call 28; (with_reducible refine (HRD.out _ _ HSb.out.up1).mono ?_); rintro e wc ⟨rfl, h⟩; have HSc := Aside0.mk h; clear h HSb)
          | ((with_reducible refine gate_store (ty := 27) rfl ?_); refine Sep.store_own rfl 27 _ _ rfl rfl rfl (HSc.out.push_alloc Z 27) HSZ.out HZV.out HVA.out ?_; intro wd h; have HSd := Aside0.mk h; clear h))
        generalize wc.heap.size = g12 at HSd ⊢
        clear HSc
        have HSd2 := Aside0.mk (show Sep w0 wd (cellsT gw #[.int .i64 (n : Int), .slice A1 p c1, .slice A2 q c2, .int .i64 r, .int .i64 wr1, .int .i64 fl] 43 :: refT (.slice A1 p c1) (.slice A2 q c2) l1 l2 :: dkT gd D2 :: cellsT g12 V 27 :: cellsT ga #[.int .i64 D.r, .int .i64 D.wr, .int .i64 D.fl] 41 :: []) from HSd.out.sel 5 [3, 4, 1, 0, 2] _ rfl (by decide) rfl)
        clear HSd
        obtain ⟨y0, y1, y2, y3, y4, y5⟩ := rf_held HSd2.out
        go_upto_region 19 with (first
          | (go_at_call 29; (with_reducible refine (HR8.out _ _ HSd2.out.up1).mono ?_); rintro e we ⟨rfl, h⟩; have HSe := Aside0.mk h; clear h)
          | ((with_reducible refine gate_store (ty := 27) rfl ?_); refine Sep.store_own rfl 27 _ _ rfl rfl rfl (HSe.out.push_alloc Z 27) HSZ.out HZV.out HVA.out ?_; intro wf h; have HSf := Aside0.mk h; clear h))
        generalize we.heap.size = g14 at HSf ⊢
        clear HSe HSd2 y0 y1 y2 y3 y4 y5
        go_upto_region 20 with (go_at_call 18; (with_reducible refine (HAC.out _ _ _ HSf.out.up3).mono ?_); rintro e wg ⟨rfl, h⟩; have HSg := Aside0.mk h; clear h HSf)
        have HSh := Aside0.mk (HSg.out.push_alloc #[.int .i64 D2.r, .int .i64 D2.wr, .int .i64 D2.fl] 41)
        clear HSg
        generalize wg.alloc (.cells #[.int .i64 D2.r, .int .i64 D2.wr, .int .i64 D2.fl] 41) = wh at HSh ⊢
        generalize wg.heap.size = g16 at HSh ⊢
        go_upto_region 21 with (first
          | (go_at_call 28; (with_reducible refine (HRN.out _ _ HSh.out).mono ?_); rintro e wi ⟨rfl, h⟩; have HSi := Aside0.mk h; clear h HSh)
          | ((with_reducible refine gate_store (ty := 27) rfl ?_); refine Sep.store_own rfl 27 _ _ rfl rfl rfl (HSi.out.push_alloc Z 27) HSN.out rfl HAN.out ?_; intro wj h; have HSj := Aside0.mk h; clear h))
        generalize wi.heap.size = g17 at HSj ⊢
        clear HSi
        have HSk := Aside0.mk (show Sep w0 wj (cellsT g12 V 27 :: cellsT g14 V 27 :: cellsT g16 #[.int .i64 D2.r, .int .i64 D2.wr, .int .i64 D2.fl] 41 :: cellsT ga #[.int .i64 D.r, .int .i64 D.wr, .int .i64 D.fl] 41 :: []) from HSj.out.sel 8 [6, 3, 1, 7] _ rfl (by decide) rfl)
        clear HSj
        have u1 : wj.cell? ⟨g16, 1, none⟩ = some (.int .i64 D.wr) := by rw [← HDr.out.1]; exact blk_cell HSk.out.up2.cells.1 1
        have u2 : wj.cell? ⟨g16, 2, none⟩ = some (.int .i64 D.fl) := by rw [← HDr.out.2]; exact blk_cell HSk.out.up2.cells.1 2
        have u3 : wj.cell? ⟨ga, 1, none⟩ = some (.int .i64 D.wr) := blk_cell HSk.out.up3.cells.1 1
        have u4 : wj.cell? ⟨ga, 2, none⟩ = some (.int .i64 D.fl) := blk_cell HSk.out.up3.cells.1 2
        go_wp2_with (first
          | ((with_reducible refine gate_load (ty := 27) rfl ?_); refine wpList_ldw ?_ 27 _ rfl ⟨g12, 0, none⟩ ?_ V _ (HLV.out _ _ _ HSk.out) Tryd.underlying27 rfl HSZ.out ?_; exact rfl; exact rfl; skip)
          | ((with_reducible refine gate_load (ty := 27) rfl ?_); refine wpList_ldw ?_ 27 _ rfl ⟨g14, 0, none⟩ ?_ V _ (HLV.out _ _ _ HSk.out.up1) Tryd.underlying27 rfl HSZ.out ?_; exact rfl; exact rfl; skip)
          | ((with_reducible refine gate_eql (t := 27) rfl ?_); refine wpList_eqlw ?_ 27 27 _ _ rfl V ?_ ?_ guard27 (HEQ.out _) ?_; exact rfl; exact rfl; exact rfl; skip))
        go_ret
        exact ⟨by first | rfl | simp, HSk.out.below⟩
      · have hi1 : ¬ (i : Int) < (row.length : Int) := by omega
        have t0 : decide ((i : Int) < (row.length : Int)) = false := decide_eq_false hi1
        clear hg
        have HAC := Aside0.mk (fun W (M : List Th) (E : DS) (h : Sep w0 W (dkT gd E :: M)) => Sep.acts h)
        have HRD := Aside0.mk (fun W (M : List Th) (h : Sep w0 W (dkT gd D :: M)) => (show Calls Tryd.prog 28 #[.pointer (some ⟨gd, 0, none⟩)] W (fun e w' => e = .returned (.tuple #[.agg (readS (n : Int) D.cur).V.toArray, .int .i64 (readE (n : Int) D.cur)]) ∧ Sep w0 w' (dkT gd (D.readsJ 2) :: M)) from by
          have hk := Sep.readSlot h HHH.out (by rw [HD.out.1.n_]; exact HNB.out.1) HD.out.1.y HD.out.1.l
          rwa [HD.out.1.n_] at hk))
        have HR8 := Aside0.mk (fun W (M : List Th) (h : Sep w0 W (refT (.slice A1 p c1) (.slice A2 q c2) l1 l2 :: M)) => Sep.read18 (r := r) (wr := wr1) (fl := fl) h HD.out.2.1 HD.out.1.n_ HD.out.2.2.1 HD.out.2.2.2.1 (by have := HD.out.2.2.2.2; have := HJ.out; omega) HNB.out.1 HD.out.1.l HD.out.1.y)
        have HRN := Aside0.mk (fun W (M : List Th) (h : Sep w0 W M) => read_nil h)
        have hok : (readS (n : Int) D.cur).Ok := by
          unfold readS
          split
          · exact noSL_ok
          · exact bestJ_ok HD.out.1.y 2
        have HSZ := Aside0.mk (SlAt.sa hok)
        have HVA := Aside0.mk (SL.V_all (readS (n : Int) D.cur))
        have HEQ := Aside0.mk (fun W => eql_slot hok W)
        have hz := (zero_of_info (P := Tryd.prog) (t := 27) (v := .agg noSL.V.toArray) (n := 105) (by kernel_rfl)).1
        have HZV := Aside0.mk (show noSL.V.toArray.size = (readS (n : Int) D.cur).V.toArray.size from by simp only [List.size_toArray]; rw [SL.V_len noSL_ok, SL.V_len hok])
        have HSN := Aside0.mk (SlAt.sa noSL_ok)
        have HAN := Aside0.mk (SL.V_all noSL)
        have HLV := Aside0.mk (fun W (M : List Th) g (h : Sep w0 W (cellsT g (readS (n : Int) D.cur).V.toArray 27 :: M)) => (show ∀ j v, (readS (n : Int) D.cur).V.toArray.toList[j]? = some v → W.cell? ((⟨g, 0, none⟩ : Addr).add j) = some v from fun j v hv => seg_at h.cells.1 0 (readS (n : Int) D.cur).V (by rw [List.drop_zero]; exact List.take_of_length_le (Nat.le_refl _)) j v (by simpa using hv)))
        have HDr := Aside0.mk (show (D.readsJ 2).wr = D.wr ∧ (D.readsJ 2).fl = D.fl from ⟨rfl, rfl⟩)
        have HS := hS
        clear hok hS
        generalize (readS (n : Int) D.cur).V.toArray = V at HRD HR8 HSZ HVA HEQ HZV HLV
        generalize readE (n : Int) D.cur = re at HRD HR8
        generalize noSL.V.toArray = Z at hz HZV HRN HSN HAN
        generalize D.readsJ 2 = D2 at *
        go_upto_region 17 with (go_at_call 18; (with_reducible refine (HAC.out _ _ _ HS.out.up2).mono ?_); rintro e wa ⟨rfl, h⟩; have HSa := Aside0.mk h; clear h HS)
        have HSb := Aside0.mk (HSa.out.push_alloc #[.int .i64 D.r, .int .i64 D.wr, .int .i64 D.fl] 41)
        clear HSa
        generalize wa.alloc (.cells #[.int .i64 D.r, .int .i64 D.wr, .int .i64 D.fl] 41) = wb at HSb ⊢
        generalize wa.heap.size = ga at HSb ⊢
        go_upto_region 18 with (first
          | (go_at_call 28; (with_reducible refine (HRD.out _ _ HSb.out.up1).mono ?_); rintro e wc ⟨rfl, h⟩; have HSc := Aside0.mk h; clear h HSb)
          | ((with_reducible refine gate_store (ty := 27) rfl ?_); refine Sep.store_own rfl 27 _ _ rfl rfl rfl (HSc.out.push_alloc Z 27) HSZ.out HZV.out HVA.out ?_; intro wd h; have HSd := Aside0.mk h; clear h))
        generalize wc.heap.size = g12 at HSd ⊢
        clear HSc
        have HSd2 := Aside0.mk (show Sep w0 wd (cellsT gw #[.int .i64 (n : Int), .slice A1 p c1, .slice A2 q c2, .int .i64 r, .int .i64 wr1, .int .i64 fl] 43 :: refT (.slice A1 p c1) (.slice A2 q c2) l1 l2 :: dkT gd D2 :: cellsT g12 V 27 :: cellsT ga #[.int .i64 D.r, .int .i64 D.wr, .int .i64 D.fl] 41 :: []) from HSd.out.sel 5 [3, 4, 1, 0, 2] _ rfl (by decide) rfl)
        clear HSd
        obtain ⟨y0, y1, y2, y3, y4, y5⟩ := rf_held HSd2.out
        go_upto_region 19 with (first
          | (go_at_call 29; (with_reducible refine (HR8.out _ _ HSd2.out.up1).mono ?_); rintro e we ⟨rfl, h⟩; have HSe := Aside0.mk h; clear h)
          | ((with_reducible refine gate_store (ty := 27) rfl ?_); refine Sep.store_own rfl 27 _ _ rfl rfl rfl (HSe.out.push_alloc Z 27) HSZ.out HZV.out HVA.out ?_; intro wf h; have HSf := Aside0.mk h; clear h))
        generalize we.heap.size = g14 at HSf ⊢
        clear HSe HSd2 y0 y1 y2 y3 y4 y5
        go_upto_region 20 with (go_at_call 18; (with_reducible refine (HAC.out _ _ _ HSf.out.up3).mono ?_); rintro e wg ⟨rfl, h⟩; have HSg := Aside0.mk h; clear h HSf)
        have HSh := Aside0.mk (HSg.out.push_alloc #[.int .i64 D2.r, .int .i64 D2.wr, .int .i64 D2.fl] 41)
        clear HSg
        generalize wg.alloc (.cells #[.int .i64 D2.r, .int .i64 D2.wr, .int .i64 D2.fl] 41) = wh at HSh ⊢
        generalize wg.heap.size = g16 at HSh ⊢
        go_upto_region 21 with (first
          | (go_at_call 28; (with_reducible refine (HRN.out _ _ HSh.out).mono ?_); rintro e wi ⟨rfl, h⟩; have HSi := Aside0.mk h; clear h HSh)
          | ((with_reducible refine gate_store (ty := 27) rfl ?_); refine Sep.store_own rfl 27 _ _ rfl rfl rfl (HSi.out.push_alloc Z 27) HSN.out rfl HAN.out ?_; intro wj h; have HSj := Aside0.mk h; clear h))
        generalize wi.heap.size = g17 at HSj ⊢
        clear HSi
        have HSk := Aside0.mk (show Sep w0 wj (cellsT g12 V 27 :: cellsT g14 V 27 :: cellsT g16 #[.int .i64 D2.r, .int .i64 D2.wr, .int .i64 D2.fl] 41 :: cellsT ga #[.int .i64 D.r, .int .i64 D.wr, .int .i64 D.fl] 41 :: []) from HSj.out.sel 8 [6, 3, 1, 7] _ rfl (by decide) rfl)
        clear HSj
        have u1 : wj.cell? ⟨g16, 1, none⟩ = some (.int .i64 D.wr) := by rw [← HDr.out.1]; exact blk_cell HSk.out.up2.cells.1 1
        have u2 : wj.cell? ⟨g16, 2, none⟩ = some (.int .i64 D.fl) := by rw [← HDr.out.2]; exact blk_cell HSk.out.up2.cells.1 2
        have u3 : wj.cell? ⟨ga, 1, none⟩ = some (.int .i64 D.wr) := blk_cell HSk.out.up3.cells.1 1
        have u4 : wj.cell? ⟨ga, 2, none⟩ = some (.int .i64 D.fl) := blk_cell HSk.out.up3.cells.1 2
        go_wp2_with (first
          | ((with_reducible refine gate_load (ty := 27) rfl ?_); refine wpList_ldw ?_ 27 _ rfl ⟨g12, 0, none⟩ ?_ V _ (HLV.out _ _ _ HSk.out) Tryd.underlying27 rfl HSZ.out ?_; exact rfl; exact rfl; skip)
          | ((with_reducible refine gate_load (ty := 27) rfl ?_); refine wpList_ldw ?_ 27 _ rfl ⟨g14, 0, none⟩ ?_ V _ (HLV.out _ _ _ HSk.out.up1) Tryd.underlying27 rfl HSZ.out ?_; exact rfl; exact rfl; skip)
          | ((with_reducible refine gate_eql (t := 27) rfl ?_); refine wpList_eqlw ?_ 27 27 _ _ rfl V ?_ ?_ guard27 (HEQ.out _) ?_; exact rfl; exact rfl; exact rfl; skip))
        go_ret
        exact ⟨by first | rfl | simp, HSk.out.below⟩
theorem reads_calls {w0 : World} (hH : Wr.Half w0) (x : Int) (A : Option Addr) (c : Nat) (row : List T61) (hC : Kd.C k61 w0 A row.length row) (hraw : ∀ y ∈ row, bytes_ y.raw) : Calls Tryd.prog 5 #[.int .i64 x, .slice A row.length c] w0 fun e w' => e = .returned (.bool true) ∧ Below w0.heap.size w0 w' := by
  by_cases hx : 2 ≤ x ∧ x ≤ 65536
  · obtain ⟨n, rfl⟩ : ∃ n : Nat, x = (n : Int) := ⟨x.toNat, by omega⟩
    by_cases hb : 4096 < n
    · exact rd_big n (by omega) (by omega) hb A _ c w0
    · exact rd_yes hH n (by omega) (by omega) A row c hC hraw
  · exact rd_out x hx A _ c w0
def readsF (k : Nat) (x : Int) (l : List T61) : Option Bool := if l.all (fun y => y.raw.all (fun b => decide (0 ≤ b ∧ b < 256))) = true then some true else none
theorem reads_pure (x : Int) (l : List T61) (_ : (Lit.int .i64 x).wf = true) (_ : l.length ≤ 9223372036854775807) (hw : ∀ y ∈ l, bytes_ y.raw) : ∃ k, readsF k x l = some true := by
  refine ⟨0, ?_⟩
  unfold readsF
  rw [if_pos]
  rw [List.all_eq_true]
  intro y hy
  rw [List.all_eq_true]
  intro b hb
  exact decide_eq_true (hw y hy b hb)
theorem reads18_row (k : Nat) (x : Int) (A : Option Addr) (c : Nat) (l : List T61) (v : Bool) (W : World) (hr : Kd.C k61 W A l.length l) (hc : l.length ≤ c) (hG : Wr.Half W) (h : readsF k x l = some v) :
    Calls Tryd.prog 5 #[.int .i64 x, .slice A l.length c] W fun e w' => e = .returned (.bool v) ∧ Below W.heap.size W w' := by
  unfold readsF at h
  split at h
  · rename_i hb
    cases h
    exact reads_calls hG x A c l hr (fun y hy b hb2 => by
      have h1 := List.all_eq_true.1 hb y hy
      have h2 := List.all_eq_true.1 h1 b hb2
      simpa using h2)
  · cases h
end Go.Proofs.YtaflofcnjakaaaaDoor.M

namespace Go.Proofs.YtaflofcnjakaaaaDoor.rootReads
open Go.ChangeShapes Go.WideShapes Go.ChangeAt Go.RowKit Go.Proofs.YtaflofcnjakaaaaDoorW.PrintWords Go.Proofs.YtaflofcnjakaaaaDoorW.PrintLast Go.Proofs.YtaflofcnjakaaaaDoorW.PrintMore Go.Proofs.YtaflofcnjakaaaaDoor.P Go.Proofs.YtaflofcnjakaaaaDoor.M Go.Proofs.YtaflofcnjakaaaaDoor.Wr Go.Proofs.YtaflofcnjakaaaaDoor.Pl Go.Proofs.YtaflofcnjakaaaaDoor.A
set_option linter.unusedVariables false
theorem own : ownKnob Tryd.prog.godebug = none := by kernel_rfl
theorem laidOut : laidOutB Tryd.prog = true := by kernel_rfl
theorem gTab : Tryd.prog.globalNamed "kiln/wire.half" = some 0 := by kernel_rfl
theorem gTabType : (Tryd.prog.globals[0]?).map (·.type) = some 129 := by kernel_rfl
theorem cellsTab : Tryd.prog.cellsOf 129 = 16 := by kernel_rfl
theorem cells90 : Tryd.prog.cellsOf 90 = 1 := by kernel_rfl
theorem half_of {W : World} (h : laidMetH Tryd.prog Rows.rootReadsRow.laid W) : Wr.Half W := by
  have t : Lib.TabIs Tryd.prog W "kiln/wire.half" .u32 [0, 498536548, 997073096, 651767980, 1994146192, 1802195444, 1303535960, 1342533948, 3988292384, 4027552580, 3604390888, 3412177804, 2607071920, 2262029012, 2685067896, 3183342108] := Lib.tabIs_of_head (rest := []) gTab gTabType Tryd.underlying129 Tryd.underlying90 cells90 cellsTab h
  intro i hi
  have hc := t.cell gTab i (by simpa using hi)
  have e : ∀ j : Fin 16, ([0, 498536548, 997073096, 651767980, 1994146192, 1802195444, 1303535960, 1342533948, 3988292384, 4027552580, 3604390888, 3412177804, 2607071920, 2262029012, 2685067896, 3183342108] : List Int)[j.1]? = some ((halfL.getD j.1 0 : Nat) : Int) := by decide
  have e2 := e ⟨i, hi⟩
  first
  | (rw [List.getD_eq_getElem?_getD, e2] at hc; exact hc)
  | (rw [List.getElem?_eq_some_iff] at e2; obtain ⟨_, e3⟩ := e2; rw [e3] at hc; exact hc)
def IsRow (k : IntKind) (w : World) (a : Option Addr) (len cap : Nat) (zs : List Int) : Prop :=
  (a = none ∧ len = 0 ∧ cap = 0 ∧ zs = []) ∨
  ∃ x, a = some x ∧ len ≤ cap ∧ cap ≤ maxLen ∧ zs.length = cap ∧ (∀ i, i < zs.length → w.cell? (x.add i) = some (.int k (zs.getD i 0))) ∧ ∀ n ∈ zs, (Lit.int k n).wf = true
set_option maxRecDepth 100000 in
theorem contract (H : Type) (enc : TypeId × Value → H) (W : World) (base : Nat) (args : Array Value) (ds gs : List (DataW H)) (before : List MemPlace)
    (hval : ∀ (j : Nat) t v, Tryd.f5.params[j]? = some t → args[j]? = some v → Value.okWide Tryd.prog W .any base t v)
    (hW : DataW.Whole enc Tryd.prog Tryd.f5.params.toList Rows.rootReadsSpec.vars false W args.toList ds gs before)
    (hsz0 : (DataW.weightsEach Tryd.prog (Tryd.f5.params.toList ++ Rows.rootReadsSpec.plain.varTypes Tryd.prog) (ds ++ gs)).all (· ≤ reachBytes) = true)
    (hL : laidMetH Tryd.prog Rows.rootReadsRow.laid W) :
    Calls Tryd.prog 5 args W fun e W' => ∃ v, e = .returned v ∧ Rows.rootReadsSpec.post enc Tryd.prog Tryd.f5 false true false false W args v W' := by
  have hG := half_of hL
  have hW' := hW
  have hsz : (DataW.weightsEach Tryd.prog (Tryd.f5.params.toList ++ Rows.rootReadsSpec.plain.varTypes Tryd.prog) (ds ++ gs)).all (· ≤ reachBytes) = true := hsz0
  obtain ⟨p, q, hA0, hV, rfl, hfz, hnd⟩ := hW
  have hA : DataW.TrodAll enc Tryd.prog W 0 (fun _ => true) true Tryd.f5.params.toList args.toList ds p := hA0
  rw [Tryd.params5] at hA hval hsz
  obtain ⟨v0, vs0, d0, ds0, p0, q0, hargs, rfl, rfl, h0, r0⟩ := trodAll_cons hA
  obtain ⟨v1, vs1, d1, ds1, p1, q1, rfl, rfl, rfl, h1, r1⟩ := trodAll_cons r0
  obtain ⟨rfl, rfl, rfl⟩ := trodAll_nil r1
  obtain rfl : args = #[v0, v1] := by cases args; simp_all
  obtain ⟨rfl, rfl⟩ := trodVars_none hV
  obtain ⟨a0, rfl, rfl, rfl, w0⟩ := open_int Tryd.underlying3 (hval 0 3 v0 rfl rfl) h0
  obtain ⟨a1, len1, cap1, rfl⟩ := okWide_slice Tryd.underlying59 (hval 1 59 v1 rfl rfl)
  have k1 := h1
  have lt1 : ∀ x ∈ p1, x.block < W.heap.size := by obtain ⟨m, hm⟩ := k1; exact DataW.trod_lt m _ _ _ hm
  obtain ⟨l1, rfl, hc1, hr1, hn1, hw1⟩ := BulkW.arg_59 h1 (BulkW.weights_at hsz 1 59 d1 rfl rfl)
  clear hA0 hsz0 hsz
  obtain ⟨k, h⟩ := M.reads_pure a0 l1 w0 (by omega) hw1
  refine (M.reads18_row k a0 _ _ l1 true W hr1 hc1 hG h).mono ?_
  rintro e W' ⟨rfl, bel⟩
  exact ⟨_, rfl, _, _, _, [], _, [], hW', trodAll_mk1 (shut_bool Tryd.underlying4 _), (trodAll_cons_mk (shut_int Tryd.underlying3 w0) (trodAll_cons_mk (Below.trod laidOut (by kernel_rfl) (of_decide_eq_true (by kernel_rfl)) k1 bel lt1) trodAll_mk0)), rfl, bel.frame _, fun h => by cases h⟩
noncomputable def laidWorld (os : Os) : World :=
  { World.holding Tryd.prog os ⟨#[], #[], []⟩ with heap := (World.holding Tryd.prog os ⟨#[], #[], []⟩).heap.modify 0 fun
      | .cells _ t frozen => .cells #[.int .u32 0, .int .u32 498536548, .int .u32 997073096, .int .u32 651767980, .int .u32 1994146192, .int .u32 1802195444, .int .u32 1303535960, .int .u32 1342533948, .int .u32 3988292384, .int .u32 4027552580, .int .u32 3604390888, .int .u32 3412177804, .int .u32 2607071920, .int .u32 2262029012, .int .u32 2685067896, .int .u32 3183342108] t frozen
      | o => o }
set_option maxRecDepth 100000 in
theorem laid_met (os : Os) : laidMet Tryd.prog Rows.rootReadsRow.laid ((laidWorld os).forCall (fun _ _ => 0) ⟨#[], #[.int .i64 0, .slice none 0 0], []⟩).memory :=
  laidMet_of_run' 8 (by kernel_rfl) (by kernel_rfl)
set_option maxRecDepth 100000 in
theorem reads (os : Os) {H : Type} (enc : TypeId × Value → H) : ∃ places, DataW.whole enc Tryd.prog ((laidWorld os).forCall (fun _ _ => 0) ⟨#[], #[.int .i64 0, .slice none 0 0], []⟩).memory Tryd.f5.params.toList Rows.rootReadsSpec.vars false (#[.int .i64 0, .slice none 0 0] : Array Value).toList 8 = some ([.lit (.int .i64 0), .nil], [], places) :=
  ⟨[], by kernel_rfl⟩
set_option maxRecDepth 100000 in
theorem lifted (os : Os) (started : os.Started) (H : Type) (enc : TypeId × Value → H) (F : Stop.Interp) :
    ReturnsInHanded {} Tryd.checked os 5 .any ((OpenSpec.ofChange Rows.rootReadsSpec).preRow enc Tryd.prog Tryd.f5 Rows.rootReadsRow.domain false Rows.rootReadsRow.laid) (((OpenSpec.ofChange Rows.rootReadsSpec).at F).post enc Tryd.prog Tryd.f5 false true false false) := by
  obtain ⟨places, hx⟩ := reads os enc
  refine returnsInHanded_of_row (C := Tryd.checked) (s := OpenSpec.ofChange Rows.rootReadsSpec) own started (by kernel_rfl) Tryd.func5
    (witness_row_at (enc := enc) (C := Tryd.checked) false (laidWorld os) #[.int .i64 0, .slice none 0 0] rfl (by kernel_rfl) (by kernel_rfl) (by kernel_rfl)
      (OpenSpec.preRow_of_cond 8 hx (by kernel_rfl) (fun k hk => by cases hk) (by kernel_rfl) (laid_met os))) ?_
  intro W base args ds gs before hval hW _ hcond hsz hL _ _
  exact contract H enc W base args ds gs before hval hW hsz hL
set_option maxRecDepth 100000 in
theorem said : Rows.RootReadsSaid :=
  OpenClaim.holds_of_cond 5 Tryd.f5 rfl rfl rfl rfl rfl rfl rfl ⟨rfl, rfl, rfl, rfl, rfl⟩ rfl rfl rfl rfl rfl (by kernel_rfl) Tryd.func5 (by kernel_rfl)
    (of_decide_eq_true (by kernel_rfl)) (by unfold Func.isWrapper; first | (rw [if_pos (by decide +kernel)]; kernel_rfl) | (rw [if_neg (by decide +kernel)]; exact ⟨rfl, rfl⟩))
    (fun os started H enc _ F => by rw [OpenClaim.pre_eq_preRow]; exact lifted os started H enc F)
theorem plain (f : FuncId) (fn : Func) (hf : Tryd.pinned.checked.prog.funcNamed "kiln/kilnlaw18.RootReads" = some f) (hfn : Tryd.pinned.checked.prog.funcs[f]? = some fn) :
    false = Tryd.pinned.checked.prog.looks [] ∧ ∀ (j : Nat) t, fn.params[j]? = some t → Tryd.pinned.checked.prog.wantsStandIn t = false := by
  obtain rfl : f = 5 := Option.some.inj ((show Tryd.prog.funcNamed "kiln/kilnlaw18.RootReads" = some 5 by kernel_rfl).symm.trans hf) |>.symm
  obtain rfl : fn = Tryd.f5 := (Option.some.inj (Tryd.func5.symm.trans hfn)).symm
  refine ⟨by kernel_rfl, fun j t ht => ?_⟩
  rw [Tryd.params5] at ht
  have hm : t ∈ [3, 59] := by simpa using Array.mem_of_getElem? ht
  have hall : ([3, 59].all fun u => !Tryd.prog.wantsStandIn u) = true := by kernel_rfl
  exact (show Tryd.prog.wantsStandIn t = false by simpa using List.all_eq_true.1 hall t hm)
set_option maxRecDepth 100000 in
theorem card : Rows.RootReadsCardSaid :=
  Claim7.holds_tied_plain_at .later [] _ _ _ _ said (fun _ h => by cases h) (by kernel_rfl) (fun _ h => by cases h) rootReads_row_tie rfl ⟨rfl, rfl⟩ (by kernel_rfl) rfl plain (by kernel_rfl)
#print axioms card
end Go.Proofs.YtaflofcnjakaaaaDoor.rootReads
namespace Go.Proofs.YtaflofcnjakaaaaDoor
theorem rootReads_card_holds : Rows.RootReadsCardSaid := rootReads.card
end Go.Proofs.YtaflofcnjakaaaaDoor
