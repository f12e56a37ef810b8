/- Encode's answer is memory of its own, each time, spare room too, and Decode takes a copy of what it needs: for all slots, the table of package wire as the program's text lays it. -/
import Derived.Test.YtaflofcnjakaaaaDoorPlZ1
import Derived.Laws.ResultCell
import Derived.ChangeKeysEq
import Derived.OpenShut
import Derived.WideShapes
import Derived.ChangeArms
import Derived.Test.YtaflofcnjakaaaaDoorCards
import Derived.Test.YtaflofcnjakaaaaDoorTie
import Derived.WalkKit
import Derived.ProofKit
import Derived.ShutString
import Derived.ChangeOld
import Derived.Below
import Derived.SizedLaws
import Derived.Deep.DeepHandedRow
import Derived.Lib.LaidTab
namespace Go.Proofs.YtaflofcnjakaaaaDoor.M
open Go.RowKit Go.Maps Go.Proofs.YtaflofcnjakaaaaDoorW.PrintWords Go.Proofs.YtaflofcnjakaaaaDoorW.PrintLast Go.Proofs.YtaflofcnjakaaaaDoorW.PrintMore Go.Proofs.YtaflofcnjakaaaaDoor.Wr Go.Proofs.YtaflofcnjakaaaaDoor.Pl Go.Proofs.YtaflofcnjakaaaaDoor.P Go.Proofs.YtaflofcnjakaaaaDoor.A
set_option linter.unusedVariables false
set_option linter.unusedSimpArgs false
theorem list32 (l : List Int) (h : l.length = 32) : ∃ x0 x1 x2 x3 x4 x5 x6 x7 x8 x9 x10 x11 x12 x13 x14 x15 x16 x17 x18 x19 x20 x21 x22 x23 x24 x25 x26 x27 x28 x29 x30 x31 : Int, l = [x0, x1, x2, x3, x4, x5, x6, x7, x8, x9, x10, x11, x12, x13, x14, x15, x16, x17, x18, x19, x20, x21, x22, x23, x24, x25, x26, x27, x28, x29, x30, x31] := by
  rcases l with _ | ⟨x0, l⟩
  · simp at h
  rcases l with _ | ⟨x1, l⟩
  · simp at h
  rcases l with _ | ⟨x2, l⟩
  · simp at h
  rcases l with _ | ⟨x3, l⟩
  · simp at h
  rcases l with _ | ⟨x4, l⟩
  · simp at h
  rcases l with _ | ⟨x5, l⟩
  · simp at h
  rcases l with _ | ⟨x6, l⟩
  · simp at h
  rcases l with _ | ⟨x7, l⟩
  · simp at h
  rcases l with _ | ⟨x8, l⟩
  · simp at h
  rcases l with _ | ⟨x9, l⟩
  · simp at h
  rcases l with _ | ⟨x10, l⟩
  · simp at h
  rcases l with _ | ⟨x11, l⟩
  · simp at h
  rcases l with _ | ⟨x12, l⟩
  · simp at h
  rcases l with _ | ⟨x13, l⟩
  · simp at h
  rcases l with _ | ⟨x14, l⟩
  · simp at h
  rcases l with _ | ⟨x15, l⟩
  · simp at h
  rcases l with _ | ⟨x16, l⟩
  · simp at h
  rcases l with _ | ⟨x17, l⟩
  · simp at h
  rcases l with _ | ⟨x18, l⟩
  · simp at h
  rcases l with _ | ⟨x19, l⟩
  · simp at h
  rcases l with _ | ⟨x20, l⟩
  · simp at h
  rcases l with _ | ⟨x21, l⟩
  · simp at h
  rcases l with _ | ⟨x22, l⟩
  · simp at h
  rcases l with _ | ⟨x23, l⟩
  · simp at h
  rcases l with _ | ⟨x24, l⟩
  · simp at h
  rcases l with _ | ⟨x25, l⟩
  · simp at h
  rcases l with _ | ⟨x26, l⟩
  · simp at h
  rcases l with _ | ⟨x27, l⟩
  · simp at h
  rcases l with _ | ⟨x28, l⟩
  · simp at h
  rcases l with _ | ⟨x29, l⟩
  · simp at h
  rcases l with _ | ⟨x30, l⟩
  · simp at h
  rcases l with _ | ⟨x31, l⟩
  · simp at h
  rcases l with _ | ⟨y, l⟩
  · exact ⟨x0, x1, x2, x3, x4, x5, x6, x7, x8, x9, x10, x11, x12, x13, x14, x15, x16, x17, x18, x19, x20, x21, x22, x23, x24, x25, x26, x27, x28, x29, x30, x31, rfl⟩
  · simp at h
set_option maxRecDepth 100000 in
theorem built25 (ky : List Int) (h : ky.length = 32) (f l : Int) : Tryd.prog.built 25 [(0, .agg (nums .u8 ky).toArray), (1, .int .i64 f), (2, .int .i64 l)] = some (refV ky f l).toArray := by
  obtain ⟨x0, x1, x2, x3, x4, x5, x6, x7, x8, x9, x10, x11, x12, x13, x14, x15, x16, x17, x18, x19, x20, x21, x22, x23, x24, x25, x26, x27, x28, x29, x30, x31, rfl⟩ := list32 ky h
  kernel_rfl
theorem gate_build {P : Program} {ops : Array Oper} {rest : List Oper} {o : Oper} {a : Act} {w : World} {Q : Exit → Act → World → Prop} {ty : TypeId} {ps : Array (Nat × Operand)} (_ho : o.op = .build ty ps) (h : wpList P ops Q (o :: rest) a w) : wpList P ops Q (o :: rest) a w := h
def z32 : List Int := List.replicate 32 0
set_option maxRecDepth 100000 in
theorem built27 (ky : List Int) (h : ky.length = 32) (a b c d e : Int) : Tryd.prog.built 27 [(0, .int .i64 a), (1, .int .i64 b), (2, .int .i64 c), (3, .int .i64 d), (4, .int .i64 e), (5, .agg (nums .u8 ky).toArray)] = some (SL.V ⟨a, b, c, d, e, ky, z32, 0, 0, z32, 0, 0⟩).toArray := by
  obtain ⟨x0, x1, x2, x3, x4, x5, x6, x7, x8, x9, x10, x11, x12, x13, x14, x15, x16, x17, x18, x19, x20, x21, x22, x23, x24, x25, x26, x27, x28, x29, x30, x31, rfl⟩ := list32 ky h
  kernel_rfl
set_option maxRecDepth 100000 in
theorem built27z : Tryd.prog.built 27 [] = some (SL.V ⟨0, 0, 0, 0, 0, z32, z32, 0, 0, z32, 0, 0⟩).toArray := by kernel_rfl
theorem refV_all (h : List Int) (f l : Int) : (refV h f l).toArray.all (·.oneCell') = true := by
  rw [Array.all_eq_true']
  intro v hv
  unfold refV at hv
  simp only [List.mem_toArray, List.mem_append, List.mem_cons, List.not_mem_nil, or_false] at hv
  rcases hv with hv | rfl | rfl
  · exact nums_ones h v hv
  · rfl
  · rfl
theorem SL.V_all (s : SL) : s.V.toArray.all (·.oneCell') = true := by
  rw [Array.all_eq_true']
  intro v hv
  unfold SL.V at hv
  simp only [List.mem_toArray, List.mem_append, List.mem_cons, List.not_mem_nil, or_false] at hv
  rcases hv with hv | hv | hv | hv
  · rcases hv with rfl | rfl | rfl | rfl | rfl <;> rfl
  · exact nums_ones _ v hv
  · exact Array.all_eq_true'.1 (refV_all s.rh s.rf s.rl) v (by simpa using hv)
  · exact Array.all_eq_true'.1 (refV_all s.mh s.mf s.ml) v (by simpa using hv)
theorem Sep.store_part {w0 w : World} {L : List Th} {ops : Array Oper} {rest : List Oper} {o : Oper} {a : Act} {Q : Exit → Act → World → Prop} (hgd : o.guard = none) (ty : TypeId) (x y : Operand) (ho : o.op = .store ty x y) {g e p : Nat} {old cs : List Value} (hx : a.eval x = .pointer (some ⟨g, p, none⟩)) (hy : a.eval y = .agg cs.toArray) (h : Sep w0 w (cellsT g old.toArray e :: L)) (hi : (Tryd.prog.info? ty).map (·.size) = some cs.toArray.size) (hp : p + cs.length ≤ old.length) (h1 : cs.toArray.all (·.oneCell') = true)
    (hk : ∀ w1, Sep w0 w1 (cellsT g (old.take p ++ cs ++ old.drop (p + cs.length)).toArray e :: L) → wpList Tryd.prog ops Q rest (a.put o.dst undef) w1) : wpList Tryd.prog ops Q (o :: rest) a w :=
  wpList_plain hgd fun K hK => by
    have hr := run_storeCells_at (P := Tryd.prog) g p e cs 0 old.toArray w h.cells.1 (by simpa using hp) (fun v hv => Array.all_eq_true'.1 h1 v (by simpa using hv))
    have hst : (storeVar ty ⟨g, p, none⟩ (.agg cs.toArray)).run Tryd.prog w = .ok () (w.setRow g (old.take p ++ cs ++ old.drop (p + cs.length)).toArray) := by
      cases hq : Tryd.prog.info? ty with
      | none => simp [hq] at hi
      | some i =>
        have hs : cs.length = i.size := by simp [hq] at hi; omega
        simp only [Nat.add_zero] at hr
        simp [storeVar, sizeOf, typeInfo, hq, Value.cells, hs]
        simpa [hs] using hr
    unfold Oper.wp execOp
    simp only [ho, hx, hy, Instr.storeAt, Instr.sureAddr, Sem.run_bind, Sem.run_pure, Result.andThen_ok, hst]
    exact hK _ _ (hk _ (h.setRow _))
theorem V_set_root {s : SL} (h : s.Ok) (rh : List Int) (rf rl : Int) (hl : rh.length = 32) : s.V.take 37 ++ refV rh rf rl ++ s.V.drop (37 + (refV rh rf rl).length) = SL.V { s with rh := rh, rf := rf, rl := rl } := by
  rw [refV_len hl, show 37 + 34 = 71 from rfl, s.V_d71 h]
  have e : s.V.take 37 = [.int .i64 s.a, .int .i64 s.b, .int .i64 s.c, .int .i64 s.d, .int .i64 s.e] ++ nums .u8 s.key := by
    unfold SL.V
    rw [← List.append_assoc]
    exact take_app (by rw [List.length_append, nums_length, h.k]; rfl)
  rw [e]
  unfold SL.V
  simp only [List.append_assoc]
theorem V_set_memo {s : SL} (h : s.Ok) (mh : List Int) (mf ml : Int) (hl : mh.length = 32) : s.V.take 71 ++ refV mh mf ml ++ s.V.drop (71 + (refV mh mf ml).length) = SL.V { s with mh := mh, mf := mf, ml := ml } := by
  rw [refV_len hl, List.drop_eq_nil_of_le (by rw [s.V_len h]; decide), List.append_nil]
  have e : s.V.take 71 = [.int .i64 s.a, .int .i64 s.b, .int .i64 s.c, .int .i64 s.d, .int .i64 s.e] ++ (nums .u8 s.key ++ refV s.rh s.rf s.rl) := by
    unfold SL.V
    rw [← List.append_assoc (nums .u8 s.key), ← List.append_assoc]
    exact take_app (by rw [List.length_append, List.length_append, nums_length, h.k, refV_len h.r]; rfl)
  rw [e]
  unfold SL.V
  simp only [List.append_assoc]
theorem ReadsB.r {w0 : World} {L : List Th} {A : Option Addr} {b : List Int} (h : ReadsB w0 L A b) (t : Th) : ReadsB w0 (t :: L) A b := fun W M hs hS => h W M (by
  obtain ⟨pre, rfl⟩ := hs
  exact ⟨pre ++ [t], by simp⟩) hS
theorem Sep.number4 {w0 w : World} {L : List Th} {gc : Nat} {A : Option Addr} {c : Nat} (p q : Nat) {b : List Int} (h : Sep w0 w (cellsT gc #[.slice A 512 c, .int .i64 (p : Int)] 117 :: L)) (hR : ReadsB w0 L A b) (hb : bytes_ b) (hl : b.length = 512) (hc : 512 ≤ c) (hq : p + 4 = q) (hp : q ≤ 512) :
    Calls Tryd.prog 56 #[.pointer (some ⟨gc, 0, none⟩), .int .i64 4] w fun e w' => e = .returned (.int .i64 (numAt b p 4)) ∧ Sep w0 w' (cellsT gc #[.slice A 512 c, .int .i64 (q : Int)] 117 :: L) := by
  subst hq
  exact Sep.number h hR hb hl hc 4 (by decide) (by decide) hp
set_option maxHeartbeats 8000000 in
set_option maxRecDepth 100000 in
theorem Sep.ref {w0 w : World} {L : List Th} {gc : Nat} {A : Option Addr} {c p : Nat} {b : List Int} (h : Sep w0 w (cellsT gc #[.slice A 512 c, .int .i64 (p : Int)] 117 :: L)) (hR : ReadsB w0 L A b) (hb : bytes_ b) (hl : b.length = 512) (hc : 512 ≤ c) (hp : p + 40 ≤ 512) :
    Calls Tryd.prog 58 #[.pointer (some ⟨gc, 0, none⟩)] w fun e w' => e = .returned (.agg (refV (keyAt b p) (numAt b (p + 32) 4) (numAt b (p + 36) 4)).toArray) ∧ Sep w0 w' (cellsT gc #[.slice A 512 c, .int .i64 ((p + 40 : Nat) : Int)] 117 :: L) := by
  have HKY := Aside0.mk (fun W gr Z (h : Sep w0 W (cellsT gc #[.slice A 512 c, .int .i64 (p : Int)] 117 :: cellsT gr Z 25 :: L)) => Sep.key h (ReadsB.r hR _) hb hl hc (by omega))
  have HN1 := Aside0.mk (fun W gr Z (h : Sep w0 W (cellsT gc #[.slice A 512 c, .int .i64 ((p + 32 : Nat) : Int)] 117 :: cellsT gr Z 25 :: L)) => Sep.number4 _ (p + 36) h (ReadsB.r hR _) hb hl hc (by omega) (by omega))
  have HN2 := Aside0.mk (fun W gr Z (h : Sep w0 W (cellsT gc #[.slice A 512 c, .int .i64 ((p + 36 : Nat) : Int)] 117 :: cellsT gr Z 25 :: L)) => Sep.number4 _ (p + 40) h (ReadsB.r hR _) hb hl hc (by omega) (by omega))
  have HKL := Aside0.mk (keyAt_len (b := b) hl (p := p) (by omega))
  generalize keyAt b p = ky at HKY HKL ⊢
  generalize numAt b (p + 32) 4 = n1 at HN1 ⊢
  generalize numAt b (p + 36) 4 = n2 at HN2 ⊢
  have HSZ := Aside0.mk (show (Tryd.prog.info? 25).map (·.size) = some (refV ky n1 n2).toArray.size from size25 (by simpa using refV_len HKL.out n1 n2))
  have HBL := Aside0.mk (built25 ky HKL.out n1 n2)
  have HAL := Aside0.mk (refV_all ky n1 n2)
  have hz := (zero_of_info (P := Tryd.prog) (t := 25) (v := .agg (refV z32 0 0).toArray) (n := 34) (by kernel_rfl)).1
  generalize hZ : (refV z32 0 0).toArray = Z at hz
  have HZs := Aside0.mk (show Z.size = (refV ky n1 n2).toArray.size from by rw [← hZ]; simp only [List.size_toArray]; rw [refV_len HKL.out, refV_len (by rfl)])
  have HS0 := Aside0.mk h
  clear h hR hb hl hZ
  go_enter Tryd.func58, Tryd.ntmps58
  go_upto_region 1 with (fail)
  have HSa := Aside0.mk (HS0.out.push_alloc Z 25).up1
  generalize w.alloc (.cells Z 25) = w2 at HSa ⊢
  generalize w.heap.size = gr at HSa ⊢
  clear HS0 hz
  go_wp2_with (first
    | (go_at_call 57; (with_reducible refine (HKY.out _ _ _ HSa.out).mono ?_); rintro e w3 ⟨rfl, h3⟩; have HS3 := Aside0.mk h3; clear h3)
    | (go_at_call 56; (with_reducible refine (HN1.out _ _ _ HS3.out).mono ?_); rintro e w4 ⟨rfl, h4⟩; have HS4 := Aside0.mk h4; clear h4 HS3)
    | (go_at_call 56; (with_reducible refine (HN2.out _ _ _ HS4.out).mono ?_); rintro e w5 ⟨rfl, h5⟩; have HS5 := Aside0.mk h5.up1; clear h5 HS4; rename_i hKK; refine hKK _ _ ?_; clear hKK; refine wpList_buildTo rfl 25 _ rfl (some 9) rfl (refV ky n1 n2).toArray ?aB ?_; (case aB => (simp only [List.map_toArray, List.map_cons, List.map_nil]; exact HBL.out)))
    | ((with_reducible refine gate_build (ty := 25) rfl ?_); refine wpList_buildTo rfl 25 _ rfl (some 9) rfl (refV ky n1 n2).toArray ?aB ?_; (case aB => (simp only [List.map_toArray, List.map_cons, List.map_nil]; exact HBL.out)))
    | ((with_reducible refine gate_store (ty := 25) rfl ?_); refine Sep.store_own rfl 25 _ _ rfl rfl rfl HS5.out HSZ.out HZs.out HAL.out ?_; intro w6 h6; have HS6 := Aside0.mk h6; clear h6))
  refine bodyPost_ret (results_cell_row (p := 2) (ty := 25) rfl _ _ gr 25 (refV ky n1 n2).toArray (0, 0) _ rfl HS6.out.cells.1 Tryd.underlying25 rfl HSZ.out) rfl ⟨rfl, ?_⟩
  exact HS6.out.drop
end Go.Proofs.YtaflofcnjakaaaaDoor.M

namespace Go.Proofs.YtaflofcnjakaaaaDoor.M
open Go.RowKit Go.Maps Go.Proofs.YtaflofcnjakaaaaDoorW.PrintWords Go.Proofs.YtaflofcnjakaaaaDoorW.PrintLast Go.Proofs.YtaflofcnjakaaaaDoorW.PrintMore Go.Proofs.YtaflofcnjakaaaaDoor.Wr Go.Proofs.YtaflofcnjakaaaaDoor.Pl Go.Proofs.YtaflofcnjakaaaaDoor.P Go.Proofs.YtaflofcnjakaaaaDoor.A
set_option linter.unusedVariables false
set_option linter.unusedSimpArgs false
theorem results_row_tmp {P : Program} {fn : Func} {p u : Tmp} {ty : TypeId} (h : fn.results = #[.cell p ty, .tmp u]) (tmps : Array Value) (w : World) (g : Nat) (t : TypeId) (cs : Array Value) (fr : Nat × Nat) (d : TypeDesc) (v : Value)
    (hp : tmps.getD p undef = .pointer (some ⟨g, 0, none⟩)) (hv : tmps.getD u undef = v) (hg : w.heap[g]? = some (.cells cs t fr))
    (hu : P.underlying ty = some d) (hd : (match d with | .struct _ | .array _ _ => true | _ => false) = true) (hi : (P.info? ty).map (·.size) = some cs.size) :
    (results fn tmps).run P w = .ok (.tuple #[.agg cs, v]) w := by
  rw [results_cell_tmp h, hp, hv]
  simp [asAddr, run_loadVar_row w g t ty cs fr d hg hu hd hi, Sem.run_bind]
theorem str_inj {x y : List Int} (hx : bytes_ x) (hy : bytes_ y) : ((strOfNums x).toList != (strOfNums y).toList) = decide (x ≠ y) := by
  rw [strOfNums_toList, strOfNums_toList]
  have e : (x.map (fun n => UInt8.ofNat n.toNat) = y.map (fun n => UInt8.ofNat n.toNat)) ↔ x = y := by
    constructor
    · intro h
      induction x generalizing y with
      | nil => cases y with
        | nil => rfl
        | cons b y => simp at h
      | cons a x ih => cases y with
        | nil => simp at h
        | cons b y =>
          simp only [List.map_cons, List.cons.injEq] at h
          have ha := hx a (by simp)
          have hb := hy b (by simp)
          have h1 : a.toNat % 256 = b.toNat % 256 := by
            have := congrArg UInt8.toNat h.1
            simpa [UInt8.toNat_ofNat'] using this
          have hab : a = b := by omega
          rw [hab, ih (fun z hz => hx z (by simp [hz])) (fun z hz => hy z (by simp [hz])) h.2]
    · rintro rfl; rfl
  by_cases hxy : x = y
  · subst hxy; simp
  · have : ¬ (x.map (fun n => UInt8.ofNat n.toNat) = y.map (fun n => UInt8.ofNat n.toNat)) := fun h => hxy (e.1 h)
    rw [bne_iff_ne.2 this]
    simp [hxy]
def noSL : SL := ⟨0, 0, 0, 0, 0, z32, z32, 0, 0, z32, 0, 0⟩
theorem z32_ok : z32.length = 32 ∧ bytes_ z32 := ⟨rfl, fun x hx => by rw [List.eq_of_mem_replicate hx]; omega⟩
theorem noSL_ok : noSL.Ok := ⟨z32_ok.1, z32_ok.1, z32_ok.1, z32_ok.2, z32_ok.2, z32_ok.2⟩
def decS (b : List Int) : SL := (decB b).getD noSL
def decE (b : List Int) : Int := if (decB b).isSome then 0 else 180
theorem decS_no {b : List Int} (h : decB b = none) : decS b = noSL ∧ decE b = 180 := by unfold decS decE; rw [h]; exact ⟨rfl, rfl⟩
theorem decS_yes {b : List Int} {s : SL} (h : decB b = some s) : decS b = s ∧ decE b = 0 := by unfold decS decE; rw [h]; exact ⟨rfl, rfl⟩
theorem decS_ok {b : List Int} (hb : bytes_ b) : (decS b).Ok := by
  cases h : decB b with
  | none => rw [(decS_no h).1]; exact noSL_ok
  | some s => rw [(decS_yes h).1]; exact (dec_some hb h).1
theorem Sep.num_ {w0 w : World} {L : List Th} {gc : Nat} {A : Option Addr} {c : Nat} (n p q : Nat) (N P' Q : Int) {b : List Int} (h : Sep w0 w (cellsT gc #[.slice A 512 c, .int .i64 P'] 117 :: L)) (hR : ReadsB w0 L A b) (hb : bytes_ b) (hl : b.length = 512) (hc : 512 ≤ c) (hN : (n : Int) = N) (hP : (p : Int) = P') (hQ : ((p + n : Nat) : Int) = Q) (h1 : 1 ≤ n) (h8 : n ≤ 8) (hp : p + n ≤ 512) :
    Calls Tryd.prog 56 #[.pointer (some ⟨gc, 0, none⟩), .int .i64 N] w fun e w' => e = .returned (.int .i64 (numAt b p n)) ∧ Sep w0 w' (cellsT gc #[.slice A 512 c, .int .i64 Q] 117 :: L) := by
  subst hN hP hQ
  exact Sep.number h hR hb hl hc n h1 h8 hp
theorem Sep.key_ {w0 w : World} {L : List Th} {gc : Nat} {A : Option Addr} {c : Nat} (p : Nat) (P' Q : Int) {b : List Int} (h : Sep w0 w (cellsT gc #[.slice A 512 c, .int .i64 P'] 117 :: L)) (hR : ReadsB w0 L A b) (hb : bytes_ b) (hl : b.length = 512) (hc : 512 ≤ c) (hP : (p : Int) = P') (hQ : ((p + 32 : Nat) : Int) = Q) (hp : p + 32 ≤ 512) :
    Calls Tryd.prog 57 #[.pointer (some ⟨gc, 0, none⟩)] w fun e w' => e = .returned (.agg (nums .u8 (keyAt b p)).toArray) ∧ Sep w0 w' (cellsT gc #[.slice A 512 c, .int .i64 Q] 117 :: L) := by
  subst hP hQ
  exact Sep.key h hR hb hl hc hp
theorem Sep.ref_ {w0 w : World} {L : List Th} {gc : Nat} {A : Option Addr} {c : Nat} (p : Nat) (P' Q : Int) {b : List Int} (h : Sep w0 w (cellsT gc #[.slice A 512 c, .int .i64 P'] 117 :: L)) (hR : ReadsB w0 L A b) (hb : bytes_ b) (hl : b.length = 512) (hc : 512 ≤ c) (hP : (p : Int) = P') (hQ : ((p + 40 : Nat) : Int) = Q) (hp : p + 40 ≤ 512) :
    Calls Tryd.prog 58 #[.pointer (some ⟨gc, 0, none⟩)] w fun e w' => e = .returned (.agg (refV (keyAt b p) (numAt b (p + 32) 4) (numAt b (p + 36) 4)).toArray) ∧ Sep w0 w' (cellsT gc #[.slice A 512 c, .int .i64 Q] 117 :: L) := by
  subst hP hQ
  exact Sep.ref h hR hb hl hc hp
set_option maxHeartbeats 16000000 in
set_option maxRecDepth 100000 in
theorem Sep.decode {w0 w : World} {L : List Th} {A : Option Addr} {c : Nat} {b : List Int} (h : Sep w0 w L) (hH : Wr.Half w0) (hR : ReadsB w0 L A b) (hb : bytes_ b) (hl : b.length = 512) (hc : 512 ≤ c) :
    Calls Tryd.prog 32 #[.slice A 512 c] w fun e w' => e = .returned (.tuple #[.agg (decS b).V.toArray, .int .i64 (decE b)]) ∧ Sep w0 w' L := by
  have HN0 := Aside0.mk (fun W (t : Th) gc (h : Sep w0 W (cellsT gc #[.slice A 512 c, .int .i64 4] 117 :: t :: L)) => Sep.num_ 4 4 8 4 4 8 h (ReadsB.r hR _) hb hl hc rfl rfl rfl (by decide) (by decide) (by decide))
  have HN1 := Aside0.mk (fun W (t : Th) gc (h : Sep w0 W (cellsT gc #[.slice A 512 c, .int .i64 8] 117 :: t :: L)) => Sep.num_ 4 8 12 4 8 12 h (ReadsB.r hR _) hb hl hc rfl rfl rfl (by decide) (by decide) (by decide))
  have HN2 := Aside0.mk (fun W (t : Th) gc (h : Sep w0 W (cellsT gc #[.slice A 512 c, .int .i64 12] 117 :: t :: L)) => Sep.num_ 8 12 20 8 12 20 h (ReadsB.r hR _) hb hl hc rfl rfl rfl (by decide) (by decide) (by decide))
  have HN3 := Aside0.mk (fun W (t : Th) gc (h : Sep w0 W (cellsT gc #[.slice A 512 c, .int .i64 20] 117 :: t :: L)) => Sep.num_ 8 20 28 8 20 28 h (ReadsB.r hR _) hb hl hc rfl rfl rfl (by decide) (by decide) (by decide))
  have HN4 := Aside0.mk (fun W (t : Th) gc (h : Sep w0 W (cellsT gc #[.slice A 512 c, .int .i64 28] 117 :: t :: L)) => Sep.num_ 8 28 36 8 28 36 h (ReadsB.r hR _) hb hl hc rfl rfl rfl (by decide) (by decide) (by decide))
  have HKY := Aside0.mk (fun W (t : Th) gc (h : Sep w0 W (cellsT gc #[.slice A 512 c, .int .i64 36] 117 :: t :: L)) => Sep.key_ 36 36 68 h (ReadsB.r hR _) hb hl hc rfl rfl (by decide))
  have HRR := Aside0.mk (fun W (t u : Th) gc (h : Sep w0 W (cellsT gc #[.slice A 512 c, .int .i64 68] 117 :: t :: u :: L)) => (show Calls Tryd.prog 58 _ W fun e w' => e = .returned (.agg (refV (keyAt b 68) (numAt b 100 4) (numAt b 104 4)).toArray) ∧ Sep w0 w' (cellsT gc #[.slice A 512 c, .int .i64 108] 117 :: t :: u :: L) from Sep.ref_ 68 68 108 h (ReadsB.r (ReadsB.r hR _) _) hb hl hc rfl rfl (by decide)))
  have HRM := Aside0.mk (fun W (t u : Th) gc (h : Sep w0 W (cellsT gc #[.slice A 512 c, .int .i64 108] 117 :: t :: u :: L)) => (show Calls Tryd.prog 58 _ W fun e w' => e = .returned (.agg (refV (keyAt b 108) (numAt b 140 4) (numAt b 144 4)).toArray) ∧ Sep w0 w' (cellsT gc #[.slice A 512 c, .int .i64 148] 117 :: t :: u :: L) from Sep.ref_ 108 108 148 h (ReadsB.r (ReadsB.r hR _) _) hb hl hc rfl rfl (by decide)))
  have HR0 := Aside0.mk (read_ok hl hb)
  have HDS := Aside0.mk (show mayM (readL b) = true → encB (readL b) = b → decS b = readL b ∧ decE b = 0 from fun h1 h2 => decS_yes (by unfold decB; rw [if_pos ⟨hl, h1, h2⟩]))
  have HDN := Aside0.mk (show (mayM (readL b) = true → encB (readL b) ≠ b) → decS b = noSL ∧ decE b = 180 from fun h1 => decS_no (by unfold decB; rw [if_neg (fun h2 => h1 h2.2.1 h2.2.2)]))
  have HRD := Aside0.mk (show readL b = ⟨numAt b 4 4, numAt b 8 4, numAt b 12 8, numAt b 20 8, numAt b 28 8, keyAt b 36, keyAt b 68, numAt b 100 4, numAt b 104 4, keyAt b 108, numAt b 140 4, numAt b 144 4⟩ from rfl)
  have HKL := Aside0.mk (show (keyAt b 36).length = 32 ∧ (keyAt b 68).length = 32 ∧ (keyAt b 108).length = 32 from ⟨keyAt_len hl (by decide), keyAt_len hl (by decide), keyAt_len hl (by decide)⟩)
  have HKB := Aside0.mk (show bytes_ (keyAt b 36) ∧ bytes_ (keyAt b 68) ∧ bytes_ (keyAt b 108) from ⟨bytes_take (bytes_drop hb _) _, bytes_take (bytes_drop hb _) _, bytes_take (bytes_drop hb _) _⟩)
  have HS0 := Aside0.mk h
  have HCV := Aside0.mk (fun W (M : List Th) (hs : Sub L M) (h : Sep w0 W M) => (show (convert 28 9 (.slice A 512 c)).run Tryd.prog W = .ok (.string (strOfNums b)) W from Kd.C_string (P := Tryd.prog) Tryd.underlying28 Tryd.underlying5 Tryd.underlying9 (hR W M hs h)))
  generalize numAt b 4 4 = n0 at HN0 HRD
  generalize numAt b 8 4 = n1 at HN1 HRD
  generalize numAt b 12 8 = n2 at HN2 HRD
  generalize numAt b 20 8 = n3 at HN3 HRD
  generalize numAt b 28 8 = n4 at HN4 HRD
  generalize keyAt b 36 = k at HKY HRD HKL HKB
  generalize keyAt b 68 = rh at HRR HRD HKL HKB
  generalize numAt b 100 4 = rf at HRR HRD
  generalize numAt b 104 4 = rl at HRR HRD
  generalize keyAt b 108 = mh at HRM HRD HKL HKB
  generalize numAt b 140 4 = mf at HRM HRD
  generalize numAt b 144 4 = ml at HRM HRD
  have HEN := Aside0.mk (fun W (M : List Th) (hm : mayM (readL b) = true) (h : Sep w0 W M) => Sep.encode h hH (readL b) HR0.out hm)
  have HEX := Aside0.mk (fun W (hm : mayM (readL b) = false) => encode_no (readL b) HR0.out hm W)
  have HSI := Aside0.mk (str_inj (bytes_encB HR0.out) hb)
  have HEL := Aside0.mk (encB_len HR0.out)
  have HCE := Aside0.mk (fun W g (M : List Th) (h : Sep w0 W (cellsT g (nums .u8 (encB (readL b))).toArray 89 :: M)) => (show (convert 28 9 (.slice (some ⟨g, 0, none⟩) 512 512)).run Tryd.prog W = .ok (.string (strOfNums (encB (readL b)))) W from Kd.C_string (P := Tryd.prog) Tryd.underlying28 Tryd.underlying5 Tryd.underlying9 (C_segn h.cells.1 0 (encB (readL b)) 512 HEL.out (by rw [List.drop_zero]; exact List.take_of_length_le (by rw [nums_length, HEL.out]; exact Nat.le_refl _)) (by decide))))
  generalize readL b = sr at *
  generalize encB sr = eb at *
  generalize strOfNums b = sb at HCV HSI
  generalize strOfNums eb = se at HCE HSI
  have HB1 := Aside0.mk (built27 k HKL.out.1 n0 n1 n2 n3 n4)
  have HO1 := Aside0.mk (show SL.Ok ⟨n0, n1, n2, n3, n4, k, z32, 0, 0, z32, 0, 0⟩ from ⟨HKL.out.1, z32_ok.1, z32_ok.1, HKB.out.1, z32_ok.2, z32_ok.2⟩)
  have HO2 := Aside0.mk (show SL.Ok ⟨n0, n1, n2, n3, n4, k, rh, rf, rl, z32, 0, 0⟩ from ⟨HKL.out.1, HKL.out.2.1, z32_ok.1, HKB.out.1, HKB.out.2.1, z32_ok.2⟩)
  have HV2 := Aside0.mk (V_set_root HO1.out rh rf rl HKL.out.2.1)
  have HV3 := Aside0.mk (V_set_memo HO2.out mh mf ml HKL.out.2.2)
  have HL1 := Aside0.mk (SL.V_len HO1.out)
  have HL2 := Aside0.mk (SL.V_len HO2.out)
  have HA1 := Aside0.mk (SL.V_all ⟨n0, n1, n2, n3, n4, k, z32, 0, 0, z32, 0, 0⟩)
  have HVR := Aside0.mk (show SL.V ⟨n0, n1, n2, n3, n4, k, rh, rf, rl, mh, mf, ml⟩ = sr.V from by rw [HRD.out])
  have HOK := Aside0.mk (SL.V_len HR0.out)
  have HAV := Aside0.mk (SL.V_all sr)
  have HV3b := HV3.out
  dsimp only at HV3b
  rw [HVR.out] at HV3b
  have HV2b := HV2.out
  dsimp only at HV2b
  clear HV2 HV3 HVR HRD HO1 HO2 HKB
  have HV2 := Aside0.mk HV2b
  have HV3 := Aside0.mk HV3b
  clear HV2b HV3b
  generalize SL.V ⟨n0, n1, n2, n3, n4, k, z32, 0, 0, z32, 0, 0⟩ = V1 at HB1 HV2 HL1 HA1
  generalize SL.V ⟨n0, n1, n2, n3, n4, k, rh, rf, rl, z32, 0, 0⟩ = V2 at HV2 HV3 HL2
  have HSR := Aside0.mk (refV_len HKL.out.2.1 rf rl)
  have HSM := Aside0.mk (refV_len HKL.out.2.2 mf ml)
  have HAR := Aside0.mk (refV_all rh rf rl)
  have HAM := Aside0.mk (refV_all mh mf ml)
  generalize refV rh rf rl = VR at HV2 HSR HAR HRR
  generalize refV mh mf ml = VM at HV3 HSM HAM HRM
  have HSR2 := Aside0.mk (show (Tryd.prog.info? 25).map (·.size) = some VR.toArray.size from size25 (by simpa using HSR.out))
  have HSM2 := Aside0.mk (show (Tryd.prog.info? 25).map (·.size) = some VM.toArray.size from size25 (by simpa using HSM.out))
  have HS1_ := Aside0.mk (show (Tryd.prog.info? 27).map (·.size) = some V1.toArray.size from size27 (by simpa using HL1.out))
  have hz := (zero_of_info (P := Tryd.prog) (t := 27) (v := .agg noSL.V.toArray) (n := 105) (by kernel_rfl)).1
  have HBZ := Aside0.mk (show Tryd.prog.built 27 [] = some noSL.V.toArray from built27z)
  have HSZ := Aside0.mk (show (Tryd.prog.info? 27).map (·.size) = some noSL.V.toArray.size from size27 (by simpa using SL.V_len noSL_ok))
  have HSV := Aside0.mk (show (Tryd.prog.info? 27).map (·.size) = some sr.V.toArray.size from size27 (by simpa using HOK.out))
  have HZA := Aside0.mk (SL.V_all noSL)
  have HZN := Aside0.mk (show noSL.V.toArray.size = 105 from by simpa using SL.V_len noSL_ok)
  have HVN := Aside0.mk (show sr.V.toArray.size = 105 from by simpa using HOK.out)
  generalize hV : sr.V = V at HEN HEX HSV HAV HVN HV3 HOK
  have HV := Aside0.mk hV
  clear hV
  generalize hZ : noSL.V.toArray = Z at hz HBZ HSZ HZA HZN
  have HZ := Aside0.mk hZ
  clear hZ
  clear h hH hR hb hl hc HKL
  generalize decS b = ds at *
  generalize decE b = de at *
  have HZ1 := Aside0.mk (show Z.size = V1.toArray.size from by rw [HZN.out]; simpa using HL1.out.symm)
  have HZV := Aside0.mk (show Z.size = V.toArray.size from by rw [HZN.out, HVN.out])
  go_enter Tryd.func32, Tryd.ntmps32
  go_upto_region 1 with (fail)
  have HS1 := Aside0.mk (HS0.out.push_alloc Z 27)
  generalize w.alloc (.cells Z 27) = w1 at HS1 ⊢
  generalize w.heap.size = gr at HS1 ⊢
  clear HS0
  go_upto_region 4 with (fail)
  have HS2 := Aside0.mk (HS1.out.push_alloc #[.slice A 512 c, .int .i64 4] 117)
  generalize w1.alloc (.cells #[.slice A 512 c, .int .i64 4] 117) = w2 at HS2 ⊢
  generalize w1.heap.size = gc at HS2 ⊢
  clear HS1
  go_upto_region 5 with (first
    | (go_at_call 56; (with_reducible refine (HN0.out _ _ _ HS2.out).mono ?_); rintro e w3 ⟨rfl, h3⟩; have HS3 := Aside0.mk h3; clear h3 HS2)
    | (go_at_call 56; (with_reducible refine (HN1.out _ _ _ HS3.out).mono ?_); rintro e w4 ⟨rfl, h4⟩; have HS4 := Aside0.mk h4; clear h4 HS3)
    | (go_at_call 56; (with_reducible refine (HN2.out _ _ _ HS4.out).mono ?_); rintro e w5 ⟨rfl, h5⟩; have HS5 := Aside0.mk h5; clear h5 HS4)
    | (go_at_call 56; (with_reducible refine (HN3.out _ _ _ HS5.out).mono ?_); rintro e w6 ⟨rfl, h6⟩; have HS6 := Aside0.mk h6; clear h6 HS5)
    | (go_at_call 56; (with_reducible refine (HN4.out _ _ _ HS6.out).mono ?_); rintro e w7 ⟨rfl, h7⟩; have HS7 := Aside0.mk h7; clear h7 HS6)
    | (go_at_call 57; (with_reducible refine (HKY.out _ _ _ HS7.out).mono ?_); rintro e w8 ⟨rfl, h8⟩; have HS8 := Aside0.mk h8; clear h8 HS7)
    | ((with_reducible refine gate_build (ty := 27) rfl ?_); refine wpList_buildTo rfl 27 _ rfl (some 27) rfl V1.toArray ?aB ?_; (case aB => (simp only [List.map_toArray, List.map_cons, List.map_nil]; exact HB1.out)))
    | ((with_reducible refine gate_store (ty := 27) rfl ?_); refine Sep.store_own rfl 27 _ _ rfl rfl rfl (HS8.out.push_alloc Z 27) HS1_.out HZ1.out HA1.out ?_; intro w9 h9; have HS9 := Aside0.mk h9.up1; clear h9))
  generalize w8.heap.size = gs at HS9 ⊢
  clear HS8 HN0 HN1 HN2 HN3 HN4 HKY
  go_upto_region 6 with (first
    | (go_at_call 58; (with_reducible refine (HRR.out _ _ _ _ HS9.out).mono ?_); rintro e w10 ⟨rfl, h10⟩; have HS10 := Aside0.mk h10.up1; clear h10 HS9)
    | ((with_reducible refine gate_store (ty := 25) rfl ?_); refine Sep.store_part (p := 37) rfl 25 _ _ rfl rfl rfl HS10.out HSR2.out ?aP HAR.out ?_; (case aP => (rw [HSR.out, HL1.out]; decide)); intro w11 h11; have HS11 := Aside0.mk (show Sep w0 w11 _ from (by rw [HV2.out] at h11; exact h11.up1)); clear h11 HS10))
  go_upto_region 7 with (first
    | (go_at_call 58; (with_reducible refine (HRM.out _ _ _ _ HS11.out).mono ?_); rintro e w12 ⟨rfl, h12⟩; have HS12 := Aside0.mk h12.up1; clear h12 HS11)
    | ((with_reducible refine gate_store (ty := 25) rfl ?_); refine Sep.store_part (p := 71) rfl 25 _ _ rfl rfl rfl HS12.out HSM2.out ?aP HAM.out ?_; (case aP => (rw [HSM.out, HL2.out]; decide)); intro w13 h13; have HS13 := Aside0.mk (show Sep w0 w13 _ from (by rw [HV3.out] at h13; exact h13)); clear h13 HS12))
  have HLD := Aside0.mk (fun W (M : List Th) (h : Sep w0 W (cellsT gs V.toArray 27 :: M)) => (show ∀ j v, V.toArray.toList[j]? = some v → W.cell? ((⟨gs, 0, none⟩ : Addr).add j) = some v from fun j v hv => seg_at h.cells.1 0 V (by rw [List.drop_zero]; exact List.take_of_length_le (Nat.le_refl _)) j v (by simpa using hv)))
  cases hm : mayM sr with
  | false =>
    go_upto_region 8 with (first
      | ((with_reducible refine gate_load (ty := 27) rfl ?_); refine wpList_ldw ?_ 27 _ rfl ⟨gs, 0, none⟩ ?_ V.toArray _ (HLD.out _ _ HS13.out) Tryd.underlying27 rfl HSV.out ?_; exact rfl; exact rfl; skip)
      | (go_at_call 12; (with_reducible refine (HEX.out _ hm).mono ?_); rintro e w14 ⟨rfl, hb⟩; have HS14 := Aside0.mk (HS13.out.step hb); clear hb))
    go_wp2_with (first
      | ((with_reducible refine gate_build (ty := 27) rfl ?_); refine wpList_buildTo rfl 27 _ rfl (some 48) rfl Z ?aB ?_; (case aB => (simp only [List.map_toArray, List.map_nil]; exact HBZ.out)))
      | ((with_reducible refine gate_store (ty := 27) rfl ?_); refine Sep.store_own rfl 27 _ _ rfl rfl rfl HS14.out.up2 HSZ.out rfl HZA.out ?_; intro w15 h15; have HS15 := Aside0.mk h15; clear h15))
    obtain ⟨rfl, rfl⟩ := HDN.out (fun h => by rw [hm] at h; cases h)
    rw [HZ.out]
    refine bodyPost_ret (results_row_tmp (p := 2) (u := 3) (ty := 27) rfl _ _ gr 27 Z (0, 0) _ _ rfl rfl HS15.out.cells.1 Tryd.underlying27 rfl HSZ.out) rfl ⟨rfl, ?_⟩
    exact HS15.out.drop.drop.drop
  | true =>
    go_upto_region 8 with (first
      | ((with_reducible refine gate_load (ty := 27) rfl ?_); refine wpList_ldw ?_ 27 _ rfl ⟨gs, 0, none⟩ ?_ V.toArray _ (HLD.out _ _ HS13.out) Tryd.underlying27 rfl HSV.out ?_; exact rfl; exact rfl; skip)
      | (go_at_call 12; (with_reducible refine (HEN.out _ _ hm HS13.out).mono ?_); rintro e w14 ⟨ge, rfl, h14⟩; have HS14 := Aside0.mk h14; clear h14))
    have hc1 := HCE.out _ _ _ HS14.out
    have hc2 := HCV.out _ _ (Sub.c (Sub.c (Sub.c (Sub.c (Sub.r _))))) HS14.out
    have hsi := HSI.out
    by_cases hq : eb = b
    · have hsi2 : (se.toList != sb.toList) = false := by rw [hsi, hq]; simp
      have hsi3 : (se.toList == sb.toList) = true := by cases h : (se.toList == sb.toList) with
        | true => rfl
        | false => rw [bne, h] at hsi2; cases hsi2
      clear hsi
      go_upto_region 10 with (fail)
      clear hc1 hc2 HCV
      go_wp2_with (first
        | ((with_reducible refine gate_load (ty := 27) rfl ?_); refine wpList_ldw ?_ 27 _ rfl ⟨gs, 0, none⟩ ?_ V.toArray _ (HLD.out _ _ HS14.out.up1) Tryd.underlying27 rfl HSV.out ?_; exact rfl; exact rfl; skip)
        | ((with_reducible refine gate_store (ty := 27) rfl ?_); refine Sep.store_own rfl 27 _ _ rfl rfl rfl HS14.out.up3 HSV.out HZV.out HAV.out ?_; intro w15 h15; have HS15 := Aside0.mk h15; clear h15))
      obtain ⟨rfl, rfl⟩ := HDS.out hm hq
      rw [HV.out]
      refine bodyPost_ret (results_row_tmp (p := 2) (u := 3) (ty := 27) rfl _ _ gr 27 V.toArray (0, 0) _ _ rfl rfl HS15.out.cells.1 Tryd.underlying27 rfl HSV.out) rfl ⟨rfl, ?_⟩
      exact HS15.out.drop.drop.drop.drop
    · have hsi2 : (se.toList != sb.toList) = true := by rw [hsi]; simp [hq]
      have hsi3 : (se.toList == sb.toList) = false := by cases h : (se.toList == sb.toList) with
        | false => rfl
        | true => rw [bne, h] at hsi2; cases hsi2
      clear hsi
      go_upto_region 9 with (fail)
      clear hc1 hc2 HCV
      go_wp2_with (first
        | ((with_reducible refine gate_build (ty := 27) rfl ?_); refine wpList_buildTo rfl 27 _ rfl (some 48) rfl Z ?aB ?_; (case aB => (simp only [List.map_toArray, List.map_nil]; exact HBZ.out)))
        | ((with_reducible refine gate_store (ty := 27) rfl ?_); refine Sep.store_own rfl 27 _ _ rfl rfl rfl HS14.out.up3 HSZ.out rfl HZA.out ?_; intro w15 h15; have HS15 := Aside0.mk h15; clear h15))
      obtain ⟨rfl, rfl⟩ := HDN.out (fun _ => hq)
      rw [HZ.out]
      refine bodyPost_ret (results_row_tmp (p := 2) (u := 3) (ty := 27) rfl _ _ gr 27 Z (0, 0) _ _ rfl rfl HS15.out.cells.1 Tryd.underlying27 rfl HSZ.out) rfl ⟨rfl, ?_⟩
      exact HS15.out.drop.drop.drop.drop
end Go.Proofs.YtaflofcnjakaaaaDoor.M

namespace Go.Proofs.YtaflofcnjakaaaaDoor.M
open Go.RowKit Go.Maps Go.Proofs.YtaflofcnjakaaaaDoorW.PrintWords Go.Proofs.YtaflofcnjakaaaaDoorW.PrintLast Go.Proofs.YtaflofcnjakaaaaDoorW.PrintMore Go.Proofs.YtaflofcnjakaaaaDoor.Wr Go.Proofs.YtaflofcnjakaaaaDoor.Pl Go.Proofs.YtaflofcnjakaaaaDoor.P Go.Proofs.YtaflofcnjakaaaaDoor.A
set_option linter.unusedVariables false
set_option linter.unusedSimpArgs false
def nwb_T : Bool × List (List Nat × List Nat) := (true, [([], []), ([0], [0]), ([1], [1]), ([2], [2]), ([3, 2], [2, 3]), ([2], [2]), ([5, 2, 2], [2, 5]), ([4, 6, 2], [2, 4, 6]), ([2, 7], [2, 7])])
def nwb_B : List Nat := [0, 1, 3, 7, 15, 7, 39, 127, 255]
theorem nwb_tab : rtab .any (opsOf Tryd.f17 4) = nwb_T := by kernel_rfl
theorem nwb_bits : waitsOk nwb_T.2 nwb_B = true := by kernel_rfl
def st19_T : Bool × List (List Nat × List Nat) := (true, [([], []), ([0], [0]), ([1], [1]), ([2], [2]), ([], []), ([4], [4]), ([5], [5]), ([6], [6]), ([], []), ([8], [8]), ([9], [9]), ([10], [10]), ([3, 7, 11], [3, 7, 11])])
def st19_B : List Nat := [0, 1, 3, 7, 0, 16, 48, 112, 0, 256, 768, 1792, 4095]
theorem st19_tab : rtab .any (opsOf Tryd.f19 3) = st19_T := by kernel_rfl
theorem st19_bits : waitsOk st19_T.2 st19_B = true := by kernel_rfl
def wrT (gx ge gd : Nat) (n : Int) (b : List Int) (st : Int) : List Th := [cellsT gx #[.pointer (some ⟨gd, 0, none⟩), .int .i64 n, .slice (some ⟨ge, 0, none⟩) 512 512, .int .i64 st] 104, cellsT ge (nums .u8 b).toArray 89]
set_option maxHeartbeats 8000000 in
set_option maxRecDepth 100000 in
theorem Sep.writer {w0 w : World} {L : List Th} {gd : Nat} {D : DS} (h : Sep w0 w (dkT gd D :: L)) (hH : Wr.Half w0) (s : SL) (hs : s.Ok) (hm : mayM s = true) (hsec : s.a = (D.n : Int)) :
    Calls Tryd.prog 17 #[.pointer (some ⟨gd, 0, none⟩), .agg s.V.toArray] w fun e w' => ∃ gx ge, e = .returned (.tuple #[.pointer (some ⟨gx, 0, none⟩), .int .i64 0]) ∧ Sep w0 w' (wrT gx ge gd (s.c.tmod 2) (encB s) 0 ++ dkT gd D :: L) := by
  have HSA := Aside0.mk (show (Tryd.prog.info? 27).map (·.size) = some s.V.toArray.size from size27 (by simpa using SL.V_len hs))
  have HEN := Aside0.mk (fun W (M : List Th) (h : Sep w0 W M) => Sep.encode h hH s hs hm)
  have HSA0 := Aside0.mk (show s.V.toArray[0]? = some (.int .i64 s.a) from by simpa using s.V0)
  have HSA2 := Aside0.mk (show s.V.toArray[2]? = some (.int .i64 s.c) from by simpa using s.V2)
  have HS0 := Aside0.mk (h.push_alloc s.V.toArray 27)
  have HLV := Aside0.mk (fun W (M : List Th) g (h : Sep w0 W (cellsT g s.V.toArray 27 :: M)) => (show ∀ j v, s.V.toArray.toList[j]? = some v → W.cell? ((⟨g, 0, none⟩ : Addr).add j) = some v from fun j v hv => seg_at h.cells.1 0 s.V (by rw [List.drop_zero]; exact List.take_of_length_le (Nat.le_refl _)) j v (by simpa using hv)))
  have HSC := Aside0.mk (fun W (M : List Th) (h : Sep w0 W (dkT gd D :: M)) => (show Calls Tryd.prog 47 #[.pointer (some ⟨gd, 0, none⟩)] W (fun e w' => e = .returned (.int .i64 s.a) ∧ w' = W) from by rw [hsec]; exact Sep.sectors h))
  clear h hs hm hH hsec
  generalize s.V.toArray = V at HS0 HEN HSA HLV HSA0 HSA2 ⊢
  generalize encB s = eb at HEN ⊢
  generalize s.a = sa at *
  generalize s.c = sc at *
  go_enter Tryd.func17, Tryd.ntmps17
  go_upto_region 1 with (fail)
  generalize w.alloc (.cells V 27) = w1 at HS0 ⊢
  generalize w.heap.size = g0 at HS0 ⊢
  go_upto_region 4 with (first
    | ((with_reducible refine gate_load (ty := 27) rfl ?_); refine wpList_ldw ?_ 27 _ rfl ⟨g0, 0, none⟩ ?_ V _ (HLV.out _ _ _ HS0.out) Tryd.underlying27 rfl HSA.out ?_; exact rfl; exact rfl; skip)
    | (go_at_call 12; (with_reducible refine (HEN.out _ _ HS0.out).mono ?_); rintro e w2 ⟨ge, rfl, h2⟩; have HSx := Aside0.mk h2; clear h2))
  have HSy := Aside0.mk (HSx.out.step (below_drew1 (Below.refl w2.heap.size w2)))
  clear HS0 HSx HEN HLV
  refine start_ (n := 9) (S := fun W => W.cell? ⟨g0, 0, none⟩ = some (.int .i64 sa)) (ds := []) (bb 9 0) (by kernel_rfl) rfl rfl (blk_cell HSy.out.up1.cells.1 0 |>.trans HSA0.out) (fun hHeld => ?_); refine with_tabW nwb_tab nwb_bits (fun HT_ HW_ => ?_)
  generalize w2.drew = wd at hHeld HSy ⊢
  refine pure_ (i := 0) (N := (some 15)) (v := ?_) (a' := ?_) (bb 9 1) rfl rfl (any_of HT_.out (by kernel_rfl)) (fun _ _ _ h => h) (Or.inl ⟨by rfl, ?_⟩) ?_ ?_
  rotate_left
  · intro w'
    go_simp
    with_reducible rfl
  rotate_left
  · simp only [Act.put, List.setIfInBounds_toArray, List.set_cons_zero, List.set_cons_succ, i64_w, i32_w]
    rfl
  refine pure_ (i := 1) (N := (some 16)) (v := ?_) (a' := ?_) (bb 9 3) rfl rfl (any_of HT_.out (by kernel_rfl)) (fun _ _ _ h => h) (Or.inl ⟨by rfl, ?_⟩) ?_ ?_
  rotate_left
  · intro w'
    go_simp
    with_reducible rfl
  rotate_left
  · simp only [Act.put, List.setIfInBounds_toArray, List.set_cons_zero, List.set_cons_succ, i64_w, i32_w]
    rfl
  refine pure_ (i := 2) (N := (some 17)) (v := ?_) (a' := ?_) (bb 9 7) rfl rfl (any_of HT_.out (by kernel_rfl)) (fun _ _ _ h => h) (Or.inl ⟨by rfl, ?_⟩) ?_ ?_
  rotate_left
  · intro w'
    go_simp
    with_reducible rfl
  rotate_left
  · simp only [Act.put, List.setIfInBounds_toArray, List.set_cons_zero, List.set_cons_succ, i64_w, i32_w]
    rfl
  refine pure_ (i := 3) (N := (some 18)) (v := ?_) (a' := ?_) (bb 9 15) rfl rfl (any_of HT_.out (by kernel_rfl)) (fun _ _ _ h => h) (Or.inl ⟨by rfl, ?_⟩) ?_ ?_
  rotate_left
  · intro w'
    go_simp
    with_reducible rfl
  rotate_left
  · simp only [Act.put, List.setIfInBounds_toArray, List.set_cons_zero, List.set_cons_succ, i64_w, i32_w]
    rfl
  refine take_ (i := 4) (N := (some 19)) (v := ?_) (a' := ?_) (bb 9 31) rfl rfl (take_ofW HT_.out HW_.out (by kernel_rfl)) (fun _ _ _ h => h) (Or.inl ⟨by rfl, ?_⟩) hHeld ?_ ?_
  rotate_left
  · intro w' s0
    (try dsimp only at s0)
    go_simp
    with_reducible rfl
  rotate_left
  · simp only [Act.put, List.setIfInBounds_toArray, List.set_cons_zero, List.set_cons_succ, i64_w, i32_w]
    rfl
  refine pure_ (i := 5) (N := (some 20)) (v := ?_) (a' := ?_) (bb 9 63) rfl rfl (any_of HT_.out (by kernel_rfl)) (fun _ _ _ h => h) (Or.inl ⟨by rfl, ?_⟩) ?_ ?_
  rotate_left
  · intro w'
    go_simp
    with_reducible rfl
  rotate_left
  · simp only [Act.put, List.setIfInBounds_toArray, List.set_cons_zero, List.set_cons_succ, i64_w, i32_w]
    rfl
  refine one_ (i := 6) (N := (some 21)) (bb 9 127) rfl rfl (one_of HT_.out (by kernel_rfl)) (by decide) (fun K hK => ?_)
  refine goes_ Tryd.func47 (by kernel_rfl) rfl #[.pointer (some ⟨gd, 0, none⟩)] (by rfl) rfl rfl (by (try simp only [List.map_toArray, List.map_cons, List.map_nil]); first | done | rfl) ?_
  refine (HSC.out _ _ HSy.out.up2).mono ?_
  rintro e w3 ⟨rfl, rfl⟩
  refine ⟨_, rfl, ?_⟩
  refine hK.out _ _ (blk_cell HSy.out.up1.cells.1 0 |>.trans HSA0.out) (fun hHeld => ?_)
  clear hK K
  refine norm_ (a' := ?_) ?_ ?_
  rotate_left
  · show Act.put _ (some 21) _ = _
    simp only [Act.put, List.setIfInBounds_toArray, List.set_cons_zero, List.set_cons_succ, i64_w, i32_w]
    rfl
  refine pure_ (i := 7) (N := (some 22)) (v := ?_) (a' := ?_) (bb 9 255) rfl rfl (any_of HT_.out (by kernel_rfl)) (fun _ _ _ h => h) (Or.inl ⟨by rfl, ?_⟩) ?_ ?_
  rotate_left
  · intro w'
    go_simp
    with_reducible rfl
  rotate_left
  · simp only [Act.put, List.setIfInBounds_toArray, List.set_cons_zero, List.set_cons_succ, i64_w, i32_w]
    rfl
  refine pure_ (i := 8) (N := (some 23)) (v := ?_) (a' := ?_) (bb 9 511) rfl rfl (any_of HT_.out (by kernel_rfl)) (fun _ _ _ h => h) (Or.inl ⟨by rfl, ?_⟩) ?_ ?_
  rotate_left
  · intro w'
    go_simp
    with_reducible rfl
  rotate_left
  · simp only [Act.put, List.setIfInBounds_toArray, List.set_cons_zero, List.set_cons_succ, i64_w, i32_w]
    rfl
  refine done_ (done_of HT_.out (by kernel_rfl)) ?_
  clear hHeld HT_ HW_
  go_upto_region 6 with (fail)
  have x2 : w3.cell? ⟨g0, 2, none⟩ = some (.int .i64 sc) := blk_cell HSy.out.up1.cells.1 2 |>.trans HSA2.out
  go_wp2
  go_ret2
  exact ⟨_, _, rfl, (HSy.out.up1.drop.push_alloc _ 104)⟩
theorem Sep.write_cells {w0 w : World} {L : List Th} {g ge ty : Nat} {s : DS} {b : List Int} (h : Sep w0 w (cellsT ge (nums .u8 b).toArray ty :: dkT g s :: L)) (i : Nat) (hi : i < s.n) (hc : s.c < 1073741824) (hb : b.length = 512) :
    Calls Tryd.prog 25 #[.pointer (some ⟨g, 0, none⟩), .int .i64 (i : Int), .slice (some ⟨ge, 0, none⟩) 512 512] w fun e w' => e = .returned (.int .i64 0) ∧ Sep w0 w' (cellsT ge (nums .u8 b).toArray ty :: dkT g (s.put i b) :: L) := by
  have hC : (Kd.int .u8).C w (some ⟨ge, 0, none⟩) 512 b := C_segn h.cells.1 0 b 512 hb (by rw [List.drop_zero]; exact List.take_of_length_le (by rw [nums_length, hb]; exact Nat.le_refl _)) (by decide)
  obtain ⟨G, ⟨hG1, hG2⟩, hG3, hG4⟩ := h.open_
  obtain ⟨U, ⟨F0, h1, h2, F, ⟨base, h4⟩, h5, _⟩, h6, h7⟩ := Sep.split (M := [cellsT ge (nums .u8 b).toArray ty, dkT g s]) h
  refine (write_at g i (some ⟨ge, 0, none⟩) 512 b w base F s h4 hi hC (fun ad e hF => ?_) hc).mono ?_
  · cases e
    exact (h5 _ hF).2 ((h1.2 ge).2 rfl)
  · rintro e w' ⟨he, F', hd, hF, hch⟩
    refine ⟨he, h7 [cellsT ge (nums .u8 b).toArray ty, dkT g (s.put i b)] w' ⟨F0, Th.step _ h1 (fun x hx => hch.block x (Th.foot _ h1 x hx) (fun hF => (h5 x hF).2 hx)), fun x hx => .inl (h2 x hx), F', ⟨base, hd⟩, fun x hx => ?_, trivial⟩ (hch.mono (fun x hx => (h5 x hx).1))⟩
    rcases hF x hx with hx1 | hx1
    · exact ⟨.inl (h5 x hx1).1, (h5 x hx1).2⟩
    · exact ⟨.inr hx1, fun hx2 => Nat.not_lt.2 hx1 (Th.foot _ h1 x hx2)⟩
set_option maxHeartbeats 8000000 in
set_option maxRecDepth 100000 in
theorem Sep.step0 {w0 w : World} {L : List Th} {gx ge gd i : Nat} {n : Int} {b : List Int} {D : DS} (h : Sep w0 w (wrT gx ge gd n b 0 ++ dkT gd D :: L)) (hn : n = (i : Int)) (hi : i < D.n) (hc : D.c < 1073741824) (hb : b.length = 512) :
    Calls Tryd.prog 19 #[.pointer (some ⟨gx, 0, none⟩)] w fun e w' => e = .returned (.tuple #[.bool false, .int .i64 0]) ∧ Sep w0 w' (wrT gx ge gd n b 1 ++ dkT gd (D.put i b) :: L) := by
  have HS0 := Aside0.mk (show Sep w0 w (cellsT gx #[.pointer (some ⟨gd, 0, none⟩), .int .i64 n, .slice (some ⟨ge, 0, none⟩) 512 512, .int .i64 0] 104 :: cellsT ge (nums .u8 b).toArray 89 :: dkT gd D :: L) from h)
  have HWR := Aside0.mk (fun W (M : List Th) (h : Sep w0 W (cellsT ge (nums .u8 b).toArray 89 :: dkT gd D :: M)) => (show Calls Tryd.prog 25 #[.pointer (some ⟨gd, 0, none⟩), .int .i64 n, .slice (some ⟨ge, 0, none⟩) 512 512] W _ from by rw [hn]; exact Sep.write_cells h i hi hc hb))
  have x0 : w.cell? ⟨gx, 3, none⟩ = some (.int .i64 0) := blk_cell HS0.out.cells.1 3
  clear h hn hi hc hb
  go_enter Tryd.func19, Tryd.ntmps19
  go_upto_region 3 with (fail)
  have HSy := Aside0.mk (HS0.out.step (below_drew1 (Below.refl w.heap.size w)))
  clear x0 HS0
  refine start_ (n := 13) (S := fun W => W.cell? ⟨gx, 0, none⟩ = some (.pointer (some ⟨gd, 0, none⟩)) ∧ W.cell? ⟨gx, 1, none⟩ = some (.int .i64 n) ∧ W.cell? ⟨gx, 2, none⟩ = some (.slice (some ⟨ge, 0, none⟩) 512 512)) (ds := [12]) (bb 13 0) (by kernel_rfl) rfl rfl (⟨blk_cell HSy.out.cells.1 0, blk_cell HSy.out.cells.1 1, blk_cell HSy.out.cells.1 2⟩) (fun hHeld => ?_); refine with_tabW st19_tab st19_bits (fun HT_ HW_ => ?_)
  generalize w.drew = wd at hHeld HSy ⊢
  refine pure_ (i := 0) (N := (some 10)) (v := ?_) (a' := ?_) (bb 13 1) rfl rfl (any_of HT_.out (by kernel_rfl)) (fun _ _ _ h => h) (Or.inl ⟨by rfl, ?_⟩) ?_ ?_
  rotate_left
  · intro w'
    go_simp
    with_reducible rfl
  rotate_left
  · simp only [Act.put, List.setIfInBounds_toArray, List.set_cons_zero, List.set_cons_succ, i64_w, i32_w]
    rfl
  refine pure_ (i := 1) (N := (some 11)) (v := ?_) (a' := ?_) (bb 13 3) rfl rfl (any_of HT_.out (by kernel_rfl)) (fun _ _ _ h => h) (Or.inl ⟨by rfl, ?_⟩) ?_ ?_
  rotate_left
  · intro w'
    go_simp
    with_reducible rfl
  rotate_left
  · simp only [Act.put, List.setIfInBounds_toArray, List.set_cons_zero, List.set_cons_succ, i64_w, i32_w]
    rfl
  refine pure_ (i := 2) (N := (some 12)) (v := ?_) (a' := ?_) (bb 13 7) rfl rfl (any_of HT_.out (by kernel_rfl)) (fun _ _ _ h => h) (Or.inl ⟨by rfl, ?_⟩) ?_ ?_
  rotate_left
  · intro w'
    go_simp
    with_reducible rfl
  rotate_left
  · simp only [Act.put, List.setIfInBounds_toArray, List.set_cons_zero, List.set_cons_succ, i64_w, i32_w]
    rfl
  refine take_ (i := 3) (N := (some 13)) (v := ?_) (a' := ?_) (bb 13 15) rfl rfl (take_ofW HT_.out HW_.out (by kernel_rfl)) (fun _ _ _ h => h) (Or.inl ⟨by rfl, ?_⟩) hHeld ?_ ?_
  rotate_left
  · intro w' s0
    (try dsimp only at s0)
    go_simp
    with_reducible rfl
  rotate_left
  · simp only [Act.put, List.setIfInBounds_toArray, List.set_cons_zero, List.set_cons_succ, i64_w, i32_w]
    rfl
  refine pure_ (i := 4) (N := (some 14)) (v := ?_) (a' := ?_) (bb 13 31) rfl rfl (any_of HT_.out (by kernel_rfl)) (fun _ _ _ h => h) (Or.inl ⟨by rfl, ?_⟩) ?_ ?_
  rotate_left
  · intro w'
    go_simp
    with_reducible rfl
  rotate_left
  · simp only [Act.put, List.setIfInBounds_toArray, List.set_cons_zero, List.set_cons_succ, i64_w, i32_w]
    rfl
  refine pure_ (i := 5) (N := (some 15)) (v := ?_) (a' := ?_) (bb 13 63) rfl rfl (any_of HT_.out (by kernel_rfl)) (fun _ _ _ h => h) (Or.inl ⟨by rfl, ?_⟩) ?_ ?_
  rotate_left
  · intro w'
    go_simp
    with_reducible rfl
  rotate_left
  · simp only [Act.put, List.setIfInBounds_toArray, List.set_cons_zero, List.set_cons_succ, i64_w, i32_w]
    rfl
  refine pure_ (i := 6) (N := (some 16)) (v := ?_) (a' := ?_) (bb 13 127) rfl rfl (any_of HT_.out (by kernel_rfl)) (fun _ _ _ h => h) (Or.inl ⟨by rfl, ?_⟩) ?_ ?_
  rotate_left
  · intro w'
    go_simp
    with_reducible rfl
  rotate_left
  · simp only [Act.put, List.setIfInBounds_toArray, List.set_cons_zero, List.set_cons_succ, i64_w, i32_w]
    rfl
  refine take_ (i := 7) (N := (some 17)) (v := ?_) (a' := ?_) (bb 13 255) rfl rfl (take_ofW HT_.out HW_.out (by kernel_rfl)) (fun _ _ _ h => h) (Or.inl ⟨by rfl, ?_⟩) hHeld ?_ ?_
  rotate_left
  · intro w' s0
    (try dsimp only at s0)
    go_simp
    with_reducible rfl
  rotate_left
  · simp only [Act.put, List.setIfInBounds_toArray, List.set_cons_zero, List.set_cons_succ, i64_w, i32_w]
    rfl
  refine pure_ (i := 8) (N := (some 18)) (v := ?_) (a' := ?_) (bb 13 511) rfl rfl (any_of HT_.out (by kernel_rfl)) (fun _ _ _ h => h) (Or.inl ⟨by rfl, ?_⟩) ?_ ?_
  rotate_left
  · intro w'
    go_simp
    with_reducible rfl
  rotate_left
  · simp only [Act.put, List.setIfInBounds_toArray, List.set_cons_zero, List.set_cons_succ, i64_w, i32_w]
    rfl
  refine pure_ (i := 9) (N := (some 19)) (v := ?_) (a' := ?_) (bb 13 1023) rfl rfl (any_of HT_.out (by kernel_rfl)) (fun _ _ _ h => h) (Or.inl ⟨by rfl, ?_⟩) ?_ ?_
  rotate_left
  · intro w'
    go_simp
    with_reducible rfl
  rotate_left
  · simp only [Act.put, List.setIfInBounds_toArray, List.set_cons_zero, List.set_cons_succ, i64_w, i32_w]
    rfl
  refine pure_ (i := 10) (N := (some 20)) (v := ?_) (a' := ?_) (bb 13 2047) rfl rfl (any_of HT_.out (by kernel_rfl)) (fun _ _ _ h => h) (Or.inl ⟨by rfl, ?_⟩) ?_ ?_
  rotate_left
  · intro w'
    go_simp
    with_reducible rfl
  rotate_left
  · simp only [Act.put, List.setIfInBounds_toArray, List.set_cons_zero, List.set_cons_succ, i64_w, i32_w]
    rfl
  refine take_ (i := 11) (N := (some 21)) (v := ?_) (a' := ?_) (bb 13 4095) rfl rfl (take_ofW HT_.out HW_.out (by kernel_rfl)) (fun _ _ _ h => h) (Or.inl ⟨by rfl, ?_⟩) hHeld ?_ ?_
  rotate_left
  · intro w' s0
    (try dsimp only at s0)
    go_simp
    with_reducible rfl
  rotate_left
  · simp only [Act.put, List.setIfInBounds_toArray, List.set_cons_zero, List.set_cons_succ, i64_w, i32_w]
    rfl
  refine last_ (i := 12) (N := (some 22)) (bb 13 8191) rfl rfl (one_of HT_.out (by kernel_rfl)) (by decide) (fun K hK => ?_)
  refine goes_ Tryd.func25 (by kernel_rfl) rfl #[.pointer (some ⟨gd, 0, none⟩), .int .i64 n, .slice (some ⟨ge, 0, none⟩) 512 512] (by rfl) rfl rfl (by (try simp only [List.map_toArray, List.map_cons, List.map_nil]); first | done | rfl) ?_
  refine (HWR.out _ _ HSy.out.up2.up2).mono ?_
  rintro e w3 ⟨rfl, h3⟩
  have HS3 := Aside0.mk h3
  clear h3
  refine ⟨_, rfl, ?_⟩
  refine hK.out _ _ ?_
  clear hK K
  refine norm_ (a' := ?_) ?_ ?_
  rotate_left
  · show Act.put _ (some 22) _ = _
    simp only [Act.put, List.setIfInBounds_toArray, List.set_cons_zero, List.set_cons_succ, i64_w, i32_w]
    rfl
  refine done_ (done_of HT_.out (by kernel_rfl)) ?_
  clear hHeld HT_ HW_ HSy
  have HS4 := Aside0.mk HS3.out.up2
  clear HS3
  have x3 : w3.cell? ⟨gx, 3, none⟩ = some (.int .i64 0) := blk_cell HS4.out.cells.1 3
  have f3 : w3.frozen? ⟨gx, 3, none⟩ = false := blk_frozen HS4.out.cells.1 3
  go_wp2
  go_ret2
  exact ⟨rfl, HS4.out.cset 3 (.int .i64 1)⟩
set_option maxHeartbeats 8000000 in
set_option maxRecDepth 100000 in
theorem Sep.step1 {w0 w : World} {L : List Th} {gx ge gd : Nat} {n : Int} {b : List Int} {D : DS} (h : Sep w0 w (wrT gx ge gd n b 1 ++ dkT gd D :: L)) :
    Calls Tryd.prog 19 #[.pointer (some ⟨gx, 0, none⟩)] w fun e w' => e = .returned (.tuple #[.bool true, .int .i64 0]) ∧ Sep w0 w' (wrT gx ge gd n b 2 ++ dkT gd D.flush :: L) := by
  have HS0 := Aside0.mk (show Sep w0 w (cellsT gx #[.pointer (some ⟨gd, 0, none⟩), .int .i64 n, .slice (some ⟨ge, 0, none⟩) 512 512, .int .i64 1] 104 :: cellsT ge (nums .u8 b).toArray 89 :: dkT gd D :: L) from h)
  have x0 : w.cell? ⟨gx, 3, none⟩ = some (.int .i64 1) := blk_cell HS0.out.cells.1 3
  have x1 : w.cell? ⟨gx, 0, none⟩ = some (.pointer (some ⟨gd, 0, none⟩)) := blk_cell HS0.out.cells.1 0
  clear h
  go_enter Tryd.func19, Tryd.ntmps19
  go_upto_region 8 with (go_at_call 27; (with_reducible refine (Sep.flush HS0.out.up2).mono ?_); rintro e w3 ⟨⟨v3, rfl⟩, h3⟩; have HS4 := Aside0.mk h3.up2.up2; clear h3)
  clear x0 x1 HS0
  have x3 : w3.cell? ⟨gx, 3, none⟩ = some (.int .i64 1) := blk_cell HS4.out.cells.1 3
  have f3 : w3.frozen? ⟨gx, 3, none⟩ = false := blk_frozen HS4.out.cells.1 3
  go_wp2
  go_ret2
  exact ⟨rfl, (HS4.out.cset 3 (.int .i64 2))⟩
end Go.Proofs.YtaflofcnjakaaaaDoor.M

namespace Go.Proofs.YtaflofcnjakaaaaDoor.M
open Go.RowKit Go.Maps Go.Proofs.YtaflofcnjakaaaaDoorW.PrintWords Go.Proofs.YtaflofcnjakaaaaDoorW.PrintLast Go.Proofs.YtaflofcnjakaaaaDoorW.PrintMore Go.Proofs.YtaflofcnjakaaaaDoor.Wr Go.Proofs.YtaflofcnjakaaaaDoor.Pl Go.Proofs.YtaflofcnjakaaaaDoor.P Go.Proofs.YtaflofcnjakaaaaDoor.A
set_option linter.unusedVariables false
set_option linter.unusedSimpArgs false
def startSL : SL := ⟨0, 0, -1, 0, 0, z32, z32, 0, 0, z32, 0, 0⟩
def rda_T : Bool × List (List Nat × List Nat) := (true, [([], []), ([0], [0]), ([1], [1]), ([2], [2]), ([3, 2], [2, 3]), ([2], [2]), ([5, 2, 2], [2, 5]), ([4, 6, 2], [2, 4, 6]), ([2, 7], [2, 7]), ([8, 6], [8]), ([9], [9]), ([10, 9], [9, 10]), ([11, 9], [9, 11]), ([9], [9]), ([12, 13, 9], [9, 12, 13]), ([9, 14], [9, 14]), ([15, 9], [15]), ([16], [16]), ([17, 16], [16, 17]), ([16], [16]), ([19, 16], [16, 19]), ([18, 20, 16], [16, 18, 20]), ([16, 21], [16, 21])])
def rda_B : List Nat := [0, 1, 3, 7, 15, 7, 39, 127, 255, 511, 1023, 2047, 4095, 1023, 16383, 32767, 65535, 131071, 262143, 131071, 655359, 2097151, 4194303]
theorem rda_tab : rtab .any (opsOf Tryd.f28 9) = rda_T := by kernel_rfl
theorem rda_bits : waitsOk rda_T.2 rda_B = true := by kernel_rfl
def rdb_T : Bool × List (List Nat × List Nat) := (true, [([], []), ([0], [0]), ([1], [1]), ([2], [2]), ([3, 2], [2, 3]), ([2], [2]), ([5, 2, 2], [2, 5]), ([4, 6, 2], [2, 4, 6]), ([2, 7], [2, 7]), ([8, 6], [8]), ([9], [9]), ([10, 9], [9, 10]), ([11, 9], [9, 11]), ([9], [9]), ([12, 13, 9], [9, 12, 13]), ([9, 14], [9, 14]), ([15, 9], [15]), ([16], [16]), ([17, 16], [16, 17]), ([16], [16]), ([19, 16], [16, 19]), ([18, 20, 16], [16, 18, 20]), ([16, 21], [16, 21])])
def rdb_B : List Nat := [0, 1, 3, 7, 15, 7, 39, 127, 255, 511, 1023, 2047, 4095, 1023, 16383, 32767, 65535, 131071, 262143, 131071, 655359, 2097151, 4194303]
theorem rdb_tab : rtab .any (opsOf Tryd.f28 9) = rdb_T := by kernel_rfl
theorem rdb_bits : waitsOk rdb_T.2 rdb_B = true := by kernel_rfl
def rdc_T : Bool × List (List Nat × List Nat) := (true, [([], []), ([0], [0]), ([1], [1]), ([2], [2]), ([3, 2], [2, 3]), ([2], [2]), ([5, 2, 2], [2, 5]), ([4, 6, 2], [2, 4, 6]), ([2, 7], [2, 7]), ([8, 6], [8]), ([9], [9]), ([10, 9], [9, 10]), ([11, 9], [9, 11]), ([9], [9]), ([12, 13, 9], [9, 12, 13]), ([9, 14], [9, 14]), ([15, 9], [15]), ([16], [16]), ([17, 16], [16, 17]), ([16], [16]), ([19, 16], [16, 19]), ([18, 20, 16], [16, 18, 20]), ([16, 21], [16, 21])])
def rdc_B : List Nat := [0, 1, 3, 7, 15, 7, 39, 127, 255, 511, 1023, 2047, 4095, 1023, 16383, 32767, 65535, 131071, 262143, 131071, 655359, 2097151, 4194303]
theorem rdc_tab : rtab .any (opsOf Tryd.f28 9) = rdc_T := by kernel_rfl
theorem rdc_bits : waitsOk rdc_T.2 rdc_B = true := by kernel_rfl
def rdd_T : Bool × List (List Nat × List Nat) := (true, [([], []), ([0], [0]), ([1], [1]), ([2], [2]), ([3, 2], [2, 3]), ([2], [2]), ([5, 2, 2], [2, 5]), ([4, 6, 2], [2, 4, 6]), ([2, 7], [2, 7]), ([8, 6], [8]), ([9], [9]), ([10, 9], [9, 10]), ([11, 9], [9, 11]), ([9], [9]), ([12, 13, 9], [9, 12, 13]), ([9, 14], [9, 14]), ([15, 9], [15]), ([16], [16]), ([17, 16], [16, 17]), ([16], [16]), ([19, 16], [16, 19]), ([18, 20, 16], [16, 18, 20]), ([16, 21], [16, 21])])
def rdd_B : List Nat := [0, 1, 3, 7, 15, 7, 39, 127, 255, 511, 1023, 2047, 4095, 1023, 16383, 32767, 65535, 131071, 262143, 131071, 655359, 2097151, 4194303]
theorem rdd_tab : rtab .any (opsOf Tryd.f28 9) = rdd_T := by kernel_rfl
theorem rdd_bits : waitsOk rdd_T.2 rdd_B = true := by kernel_rfl
theorem startSL_ok : startSL.Ok := ⟨z32_ok.1, z32_ok.1, z32_ok.1, z32_ok.2, z32_ok.2, z32_ok.2⟩
def pickS (N n : Int) (best s : SL) (e : Int) : SL := if e = 0 ∧ s.a = N ∧ s.c.tmod 2 = n ∧ best.c < s.c then s else best
def bestJ (N : Int) (cur : Nat → List Int) : Nat → SL
  | 0 => startSL
  | j + 1 => pickS N (j : Int) (bestJ N cur j) (decS (cur j)) (decE (cur j))
theorem bestJ_ok {N : Int} {cur : Nat → List Int} (h : ∀ j, bytes_ (cur j)) : ∀ j, (bestJ N cur j).Ok
  | 0 => startSL_ok
  | j + 1 => by
    unfold bestJ pickS
    split
    · exact decS_ok (h j)
    · exact bestJ_ok h j
def DS.readsJ (s : DS) : Nat → DS
  | 0 => s
  | j + 1 => (s.readsJ j).reads
theorem DS.readsJ_cur (s : DS) : ∀ j, (s.readsJ j).cur = s.cur ∧ (s.readsJ j).n = s.n
  | 0 => ⟨rfl, rfl⟩
  | j + 1 => ⟨(show (s.readsJ j).reads.cur = _ from (s.readsJ_cur j).1), (s.readsJ_cur j).2⟩
def readS (N : Int) (cur : Nat → List Int) : SL := if (bestJ N cur 2).c < 0 then noSL else bestJ N cur 2
def readE (N : Int) (cur : Nat → List Int) : Int := if (bestJ N cur 2).c < 0 then 180 else 0
set_option maxRecDepth 100000 in
theorem built27m : Tryd.prog.built 27 [(2, .int .i64 (-1))] = some startSL.V.toArray := by kernel_rfl
theorem ReadsB.own {w0 : World} {L : List Th} {A : Option Addr} {n c : Nat} {b : List Int} (hl : b.length = 512) : ReadsB w0 (ownT (Kd.int .u8) 5 (.slice A n c) b :: L) A b := fun W M hs h => by
  have := (hs.sep h).own_C.1
  rwa [hl] at this
theorem decE_or (b : List Int) : decE b = 0 ∨ decE b = 180 := by unfold decE; split <;> simp
set_option maxHeartbeats 8000000 in
set_option maxRecDepth 100000 in
theorem Sep.readSlot {w0 w : World} {L : List Th} {gd : Nat} {D : DS} (h : Sep w0 w (dkT gd D :: L)) (hH : Wr.Half w0) (h2 : 2 ≤ D.n) (hb : ∀ j, bytes_ (D.cur j)) (hl : ∀ j, j < 2 → (D.cur j).length = 512) :
    Calls Tryd.prog 28 #[.pointer (some ⟨gd, 0, none⟩)] w fun e w' => e = .returned (.tuple #[.agg (readS D.n D.cur).V.toArray, .int .i64 (readE D.n D.cur)]) ∧ Sep w0 w' (dkT gd (D.readsJ 2) :: L) := by
  have HS0 := Aside0.mk h
  have HRD := Aside0.mk (fun W (M : List Th) j (hj : j < 2) (h : Sep w0 W (dkT gd (D.readsJ j) :: M)) => (show Calls Tryd.prog 52 #[.pointer (some ⟨gd, 0, none⟩), .int .i64 (j : Int)] W (fun e w' => ∃ A c, e = .returned (.tuple #[.slice A 512 c, .int .i64 0]) ∧ 512 ≤ c ∧ Sep w0 w' (ownT (Kd.int .u8) 5 (.slice A 512 c) (D.cur j) :: dkT gd (D.readsJ (j + 1)) :: M)) from by
    refine (Sep.read h j (by rw [(D.readsJ_cur j).2]; omega)).mono ?_
    rintro e w' ⟨v, rfl, h3⟩
    rw [(D.readsJ_cur j).1] at h3
    obtain ⟨A, c, rfl⟩ := h3.own_slice
    rw [hl j hj] at h3 ⊢
    have h4 := h3.own_C
    rw [hl j hj] at h4
    exact ⟨A, c, rfl, h4.2, h3⟩))
  have HDC := Aside0.mk (fun W (M : List Th) A c j (hj : j < 2) (hc : 512 ≤ c) (h : Sep w0 W (ownT (Kd.int .u8) 5 (.slice A 512 c) (D.cur j) :: M)) => Sep.decode h hH (ReadsB.own (hl j hj)) (hb j) (hl j hj) hc)
  have HSC := Aside0.mk (fun W (M : List Th) j (h : Sep w0 W (dkT gd (D.readsJ j) :: M)) => (show Calls Tryd.prog 47 #[.pointer (some ⟨gd, 0, none⟩)] W (fun e w' => e = .returned (.int .i64 (D.n : Int)) ∧ w' = W) from by have h3 := Sep.sectors h; rwa [(D.readsJ_cur j).2] at h3))
  have HOK := Aside0.mk (bestJ_ok (N := (D.n : Int)) hb)
  have HDO := Aside0.mk (fun j => decS_ok (hb j))
  have hz := (zero_of_info (P := Tryd.prog) (t := 27) (v := .agg noSL.V.toArray) (n := 105) (by kernel_rfl)).1
  have HBZ := Aside0.mk (show Tryd.prog.built 27 [] = some noSL.V.toArray from built27z)
  have HBM := Aside0.mk built27m
  have HSZ := Aside0.mk (fun s (hs : SL.Ok s) => (show (Tryd.prog.info? 27).map (·.size) = some s.V.toArray.size from size27 (by simpa using SL.V_len hs)))
  have HSQ := Aside0.mk (fun s (hs : SL.Ok s) => (show s.V.toArray.size = 105 from by simpa using SL.V_len hs))
  clear h hH h2 hb hl
  generalize hZ : noSL.V.toArray = Z at hz HBZ
  have HZ := Aside0.mk hZ
  have HZS := Aside0.mk (show Z.size = 105 from by rw [← hZ]; exact HSQ.out _ noSL_ok)
  clear hZ
  generalize hM : startSL.V.toArray = Zm at HBM
  have HZM := Aside0.mk hM
  have HMS := Aside0.mk (show (Tryd.prog.info? 27).map (·.size) = some Zm.size from by rw [← hM]; exact HSZ.out _ startSL_ok)
  have HMQ := Aside0.mk (show Z.size = Zm.size from by rw [HZS.out, ← hM, HSQ.out _ startSL_ok])
  have HMA := Aside0.mk (show Zm.all (·.oneCell') = true from by rw [← hM]; exact SL.V_all _)
  clear hM
  generalize hN : (D.n : Int) = N at HSC HOK ⊢
  clear hN
  generalize hcu : D.cur = cur at HRD HDC HOK HDO ⊢
  clear hcu
  go_enter Tryd.func28, Tryd.ntmps28
  go_upto_region 1 with (fail)
  have HS1 := Aside0.mk (HS0.out.push_alloc Z 27)
  generalize w.alloc (.cells Z 27) = w1 at HS1 ⊢
  generalize w.heap.size = gr at HS1 ⊢
  clear HS0
  go_upto_region 4 with (first
    | ((with_reducible refine gate_build (ty := 27) rfl ?_); refine wpList_buildTo rfl 27 _ rfl (some 13) rfl Zm ?aB ?_; (case aB => (simp only [List.map_toArray, List.map_cons, List.map_nil]; exact HBM.out)))
    | ((with_reducible refine gate_store (ty := 27) rfl ?_); refine Sep.store_own rfl 27 _ _ rfl rfl rfl (HS1.out.push_alloc Z 27) HMS.out HMQ.out HMA.out ?_; intro w2 h2; have HS2 := Aside0.mk (show Sep w0 w2 (cellsT w1.heap.size (bestJ N cur 0).V.toArray 27 :: dkT gd (D.readsJ 0) :: cellsT gr Z 27 :: L) from by have h3 := h2.sw12; rw [← HZM.out] at h3; exact h3); clear h2))
  generalize w1.heap.size = gb at HS2 ⊢
  clear HS1
  go_wp2
  go_loopg [14] 2 (fun kq v14 wr => ∃ j : Nat, v14 = .int .i64 j ∧ Aside0 (j + kq = 2) ∧ Aside0 (Sep w0 wr (cellsT gb (bestJ N cur j).V.toArray 27 :: dkT gd (D.readsJ j) :: cellsT gr Z 27 :: L)))
  case atStart => exact ⟨0, rfl, ⟨rfl⟩, HS2⟩
  case round =>
    obtain ⟨j, rfl, HJ, hS⟩ := hrel
    clear HS2
    by_cases hj : j < 2
    · have HPK := Aside0.mk (show bestJ N cur (j + 1) = pickS N (j : Int) (bestJ N cur j) (decS (cur j)) (decE (cur j)) from rfl)
      have HO1 := Aside0.mk (HOK.out j)
      have HO2 := Aside0.mk (HDO.out j)
      have HDC1 := Aside0.mk (fun W M A c hc h => HDC.out W M A c j hj hc h)
      have HDE := Aside0.mk (decE_or (cur j))
      generalize hbj : bestJ N cur j = bj at HPK HO1 hS
      clear hbj
      generalize hsj : decS (cur j) = sj at HPK HO2 HDC1
      clear hsj
      generalize hej : decE (cur j) = ej at HPK HDC1 HDE
      clear hej
      have HE0 := Aside0.mk (show sj.V.toArray[0]? = some (.int .i64 sj.a) from by simpa using sj.V0)
      have HE2 := Aside0.mk (show sj.V.toArray[2]? = some (.int .i64 sj.c) from by simpa using sj.V2)
      have HB2 := Aside0.mk (show bj.V.toArray[2]? = some (.int .i64 bj.c) from by simpa using bj.V2)
      go_upto_region 9 with (first
        | (go_at_call 52; (with_reducible refine (HRD.out _ _ j hj hS.out.up1).mono ?_); rintro e w3 ⟨A, c, rfl, hc, h3⟩; have HS3 := Aside0.mk h3; clear h3)
        | (go_at_call 32; (with_reducible refine (HDC1.out _ _ _ _ hc HS3.out).mono ?_); rintro e w4 ⟨rfl, h4⟩; have HS4 := Aside0.mk h4.drop; clear h4 HS3)
        | ((with_reducible refine gate_store (ty := 27) rfl ?_); refine Sep.store_own rfl 27 _ _ rfl rfl rfl (HS4.out.push_alloc Z 27) (HSZ.out _ HO2.out) ?aS (SL.V_all _) ?_; (case aS => rw [HZS.out, HSQ.out _ HO2.out]); intro w5 h5; have HS5 := Aside0.mk h5; clear h5))
      generalize w4.heap.size = gs at HS5 ⊢
      clear HS4 hS
      have HSy := Aside0.mk (HS5.out.step (below_drew1 (Below.refl w5.heap.size w5)))
      clear HS5
      have HLD := Aside0.mk (fun W (M : List Th) (h : Sep w0 W (cellsT gs sj.V.toArray 27 :: M)) => (show ∀ j v, sj.V.toArray.toList[j]? = some v → W.cell? ((⟨gs, 0, none⟩ : Addr).add j) = some v from fun j v hv => seg_at h.cells.1 0 sj.V (by rw [List.drop_zero]; exact List.take_of_length_le (Nat.le_refl _)) j v (by simpa using hv)))
      rcases HDE.out with h0 | h0
      · have hz0 : ej = 0 := h0
        subst hz0
        by_cases ha : sj.a = N
        · by_cases hp : sj.c.tmod 2 = (j : Int)
          · have hpb : (sj.c.tmod 2 == (j : Int)) = true := by simpa using hp
            by_cases ht : bj.c < sj.c
            · refine start_ (n := 23) (S := fun W => W.cell? ⟨gs, 0, none⟩ = some (.int .i64 sj.a) ∧ W.cell? ⟨gs, 2, none⟩ = some (.int .i64 sj.c) ∧ W.cell? ⟨gb, 2, none⟩ = some (.int .i64 bj.c)) (ds := []) (bb 23 0) (by kernel_rfl) rfl rfl (⟨blk_cell HSy.out.cells.1 0 |>.trans HE0.out, blk_cell HSy.out.cells.1 2 |>.trans HE2.out, blk_cell HSy.out.up2.cells.1 2 |>.trans HB2.out⟩) (fun hHeld => ?_); refine with_tabW rdd_tab rdd_bits (fun HT_ HW_ => ?_)
              generalize w5.drew = wd at hHeld HSy ⊢
              refine pure_ (i := 0) (N := (some 28)) (v := ?_) (a' := ?_) (bb 23 1) rfl rfl (any_of HT_.out (by kernel_rfl)) (fun _ _ _ h => h) (Or.inl ⟨by rfl, ?_⟩) ?_ ?_
              rotate_left
              · intro w'
                go_simp
                with_reducible rfl
              rotate_left
              · simp only [Act.put, List.setIfInBounds_toArray, List.set_cons_zero, List.set_cons_succ, i64_w, i32_w]
                rfl
              refine pure_ (i := 1) (N := (some 29)) (v := ?_) (a' := ?_) (bb 23 3) rfl rfl (any_of HT_.out (by kernel_rfl)) (fun _ _ _ h => h) (Or.inl ⟨by rfl, ?_⟩) ?_ ?_
              rotate_left
              · intro w'
                go_simp
                with_reducible rfl
              rotate_left
              · simp only [Act.put, List.setIfInBounds_toArray, List.set_cons_zero, List.set_cons_succ, i64_w, i32_w]
                rfl
              refine pure_ (i := 2) (N := (some 30)) (v := ?_) (a' := ?_) (bb 23 7) rfl rfl (any_of HT_.out (by kernel_rfl)) (fun _ _ _ h => h) (Or.inl ⟨by rfl, ?_⟩) ?_ ?_
              rotate_left
              · intro w'
                go_simp
                with_reducible rfl
              rotate_left
              · simp only [Act.put, List.setIfInBounds_toArray, List.set_cons_zero, List.set_cons_succ, i64_w, i32_w]
                rfl
              refine pure_ (i := 3) (N := (some 31)) (v := ?_) (a' := ?_) (bb 23 15) rfl rfl (any_of HT_.out (by kernel_rfl)) (fun _ _ _ h => h) (Or.inl ⟨by rfl, ?_⟩) ?_ ?_
              rotate_left
              · intro w'
                go_simp
                with_reducible rfl
              rotate_left
              · simp only [Act.put, List.setIfInBounds_toArray, List.set_cons_zero, List.set_cons_succ, i64_w, i32_w]
                rfl
              refine take_ (i := 4) (N := (some 32)) (v := ?_) (a' := ?_) (bb 23 31) rfl rfl (take_ofW HT_.out HW_.out (by kernel_rfl)) (fun _ _ _ h => h) (Or.inl ⟨by rfl, ?_⟩) hHeld ?_ ?_
              rotate_left
              · intro w' s0
                (try dsimp only at s0)
                go_simp
                with_reducible rfl
              rotate_left
              · simp only [Act.put, List.setIfInBounds_toArray, List.set_cons_zero, List.set_cons_succ, i64_w, i32_w]
                rfl
              refine pure_ (i := 5) (N := (some 33)) (v := ?_) (a' := ?_) (bb 23 63) rfl rfl (any_of HT_.out (by kernel_rfl)) (fun _ _ _ h => h) (Or.inl ⟨by rfl, ?_⟩) ?_ ?_
              rotate_left
              · intro w'
                go_simp
                with_reducible rfl
              rotate_left
              · simp only [Act.put, List.setIfInBounds_toArray, List.set_cons_zero, List.set_cons_succ, i64_w, i32_w]
                rfl
              refine one_ (i := 6) (N := (some 34)) (bb 23 127) rfl rfl (one_of HT_.out (by kernel_rfl)) (by decide) (fun K hK => ?_)
              refine goes_ Tryd.func47 (by kernel_rfl) rfl #[.pointer (some ⟨gd, 0, none⟩)] (by rfl) rfl rfl (by (try simp only [List.map_toArray, List.map_cons, List.map_nil]); first | done | rfl) ?_
              refine (HSC.out _ _ _ HSy.out.up1).mono ?_
              rintro e w6 ⟨rfl, rfl⟩
              refine ⟨_, rfl, ?_⟩
              refine hK.out _ _ (⟨blk_cell HSy.out.cells.1 0 |>.trans HE0.out, blk_cell HSy.out.cells.1 2 |>.trans HE2.out, blk_cell HSy.out.up2.cells.1 2 |>.trans HB2.out⟩) (fun hHeld => ?_)
              clear hK K
              refine norm_ (a' := ?_) ?_ ?_
              rotate_left
              · show Act.put _ (some 34) _ = _
                simp only [Act.put, List.setIfInBounds_toArray, List.set_cons_zero, List.set_cons_succ, i64_w, i32_w]
                rfl
              refine pure_ (i := 7) (N := (some 35)) (v := ?_) (a' := ?_) (bb 23 255) rfl rfl (any_of HT_.out (by kernel_rfl)) (fun _ _ _ h => h) (Or.inl ⟨by rfl, ?_⟩) ?_ ?_
              rotate_left
              · intro w'
                go_simp
                with_reducible rfl
              rotate_left
              · simp only [Act.put, List.setIfInBounds_toArray, List.set_cons_zero, List.set_cons_succ, i64_w, i32_w]
                rfl
              refine pure_ (i := 8) (N := (some 36)) (v := ?_) (a' := ?_) (bb 23 511) rfl rfl (any_of HT_.out (by kernel_rfl)) (fun _ _ _ h => h) (Or.inl ⟨by rfl, ?_⟩) ?_ ?_
              rotate_left
              · intro w'
                go_simp
                with_reducible rfl
              rotate_left
              · simp only [Act.put, List.setIfInBounds_toArray, List.set_cons_zero, List.set_cons_succ, i64_w, i32_w]
                rfl
              refine pure_ (i := 9) (N := (some 37)) (v := ?_) (a' := ?_) (bb 23 1023) rfl rfl (any_of HT_.out (by kernel_rfl)) (fun _ _ _ h => h) (Or.inl ⟨by rfl, ?_⟩) ?_ ?_
              rotate_left
              · intro w'
                go_simp
                with_reducible rfl
              rotate_left
              · simp only [Act.put, List.setIfInBounds_toArray, List.set_cons_zero, List.set_cons_succ, i64_w, i32_w]
                rfl
              refine pure_ (i := 10) (N := (some 38)) (v := ?_) (a' := ?_) (bb 23 2047) rfl rfl (any_of HT_.out (by kernel_rfl)) (fun _ _ _ h => h) (Or.inl ⟨by rfl, ?_⟩) ?_ ?_
              rotate_left
              · intro w'
                go_simp
                with_reducible rfl
              rotate_left
              · simp only [Act.put, List.setIfInBounds_toArray, List.set_cons_zero, List.set_cons_succ, i64_w, i32_w]
                rfl
              refine take_ (i := 11) (N := (some 39)) (v := ?_) (a' := ?_) (bb 23 4095) rfl rfl (take_ofW HT_.out HW_.out (by kernel_rfl)) (fun _ _ _ h => h) (Or.inl ⟨by rfl, ?_⟩) hHeld ?_ ?_
              rotate_left
              · intro w' s0
                (try dsimp only at s0)
                go_simp
                with_reducible rfl
              rotate_left
              · simp only [Act.put, List.setIfInBounds_toArray, List.set_cons_zero, List.set_cons_succ, i64_w, i32_w]
                rfl
              refine pure_ (i := 12) (N := (some 40)) (v := ?_) (a' := ?_) (bb 23 8191) rfl rfl (any_of HT_.out (by kernel_rfl)) (fun _ _ _ h => h) (Or.inl ⟨by rfl, ?_⟩) ?_ ?_
              rotate_left
              · intro w'
                go_simp
                with_reducible rfl
              rotate_left
              · simp only [Act.put, List.setIfInBounds_toArray, List.set_cons_zero, List.set_cons_succ, i64_w, i32_w]
                rfl
              refine pure_ (i := 13) (N := (some 41)) (v := ?_) (a' := ?_) (bb 23 16383) rfl rfl (any_of HT_.out (by kernel_rfl)) (fun _ _ _ h => h) (Or.inl ⟨by rfl, ?_⟩) ?_ ?_
              rotate_left
              · intro w'
                go_simp
                with_reducible rfl
              rotate_left
              · simp only [Act.put, List.setIfInBounds_toArray, List.set_cons_zero, List.set_cons_succ, i64_w, i32_w]
                rfl
              refine pure_ (i := 14) (N := (some 42)) (v := ?_) (a' := ?_) (bb 23 32767) rfl rfl (any_of HT_.out (by kernel_rfl)) (fun _ _ _ h => h) (Or.inl ⟨by rfl, ?_⟩) ?_ ?_
              rotate_left
              · intro w'
                go_simp
                with_reducible rfl
              rotate_left
              · simp only [Act.put, List.setIfInBounds_toArray, List.set_cons_zero, List.set_cons_succ, i64_w, i32_w]
                rfl
              refine pure_ (i := 15) (N := (some 43)) (v := ?_) (a' := ?_) (bb 23 65535) rfl rfl (any_of HT_.out (by kernel_rfl)) (fun _ _ _ h => h) (Or.inl ⟨by rfl, ?_⟩) ?_ ?_
              rotate_left
              · intro w'
                go_simp
                with_reducible rfl
              rotate_left
              · simp only [Act.put, List.setIfInBounds_toArray, List.set_cons_zero, List.set_cons_succ, i64_w, i32_w]
                rfl
              refine pure_ (i := 16) (N := (some 44)) (v := ?_) (a' := ?_) (bb 23 131071) rfl rfl (any_of HT_.out (by kernel_rfl)) (fun _ _ _ h => h) (Or.inl ⟨by rfl, ?_⟩) ?_ ?_
              rotate_left
              · intro w'
                go_simp
                with_reducible rfl
              rotate_left
              · simp only [Act.put, List.setIfInBounds_toArray, List.set_cons_zero, List.set_cons_succ, i64_w, i32_w]
                rfl
              refine pure_ (i := 17) (N := (some 45)) (v := ?_) (a' := ?_) (bb 23 262143) rfl rfl (any_of HT_.out (by kernel_rfl)) (fun _ _ _ h => h) (Or.inl ⟨by rfl, ?_⟩) ?_ ?_
              rotate_left
              · intro w'
                go_simp
                with_reducible rfl
              rotate_left
              · simp only [Act.put, List.setIfInBounds_toArray, List.set_cons_zero, List.set_cons_succ, i64_w, i32_w]
                rfl
              refine take_ (i := 18) (N := (some 46)) (v := ?_) (a' := ?_) (bb 23 524287) rfl rfl (take_ofW HT_.out HW_.out (by kernel_rfl)) (fun _ _ _ h => h) (Or.inl ⟨by rfl, ?_⟩) hHeld ?_ ?_
              rotate_left
              · intro w' s0
                (try dsimp only at s0)
                go_simp
                with_reducible rfl
              rotate_left
              · simp only [Act.put, List.setIfInBounds_toArray, List.set_cons_zero, List.set_cons_succ, i64_w, i32_w]
                rfl
              refine pure_ (i := 19) (N := (some 47)) (v := ?_) (a' := ?_) (bb 23 1048575) rfl rfl (any_of HT_.out (by kernel_rfl)) (fun _ _ _ h => h) (Or.inl ⟨by rfl, ?_⟩) ?_ ?_
              rotate_left
              · intro w'
                go_simp
                with_reducible rfl
              rotate_left
              · simp only [Act.put, List.setIfInBounds_toArray, List.set_cons_zero, List.set_cons_succ, i64_w, i32_w]
                rfl
              refine take_ (i := 20) (N := (some 48)) (v := ?_) (a' := ?_) (bb 23 2097151) rfl rfl (take_ofW HT_.out HW_.out (by kernel_rfl)) (fun _ _ _ h => h) (Or.inl ⟨by rfl, ?_⟩) hHeld ?_ ?_
              rotate_left
              · intro w' s0
                (try dsimp only at s0)
                go_simp
                with_reducible rfl
              rotate_left
              · simp only [Act.put, List.setIfInBounds_toArray, List.set_cons_zero, List.set_cons_succ, i64_w, i32_w]
                rfl
              refine pure_ (i := 21) (N := (some 49)) (v := ?_) (a' := ?_) (bb 23 4194303) rfl rfl (any_of HT_.out (by kernel_rfl)) (fun _ _ _ h => h) (Or.inl ⟨by rfl, ?_⟩) ?_ ?_
              rotate_left
              · intro w'
                go_simp
                with_reducible rfl
              rotate_left
              · simp only [Act.put, List.setIfInBounds_toArray, List.set_cons_zero, List.set_cons_succ, i64_w, i32_w]
                rfl
              refine pure_ (i := 22) (N := (some 50)) (v := ?_) (a' := ?_) (bb 23 8388607) rfl rfl (any_of HT_.out (by kernel_rfl)) (fun _ _ _ h => h) (Or.inl ⟨by rfl, ?_⟩) ?_ ?_
              rotate_left
              · intro w'
                go_simp
                with_reducible rfl
              rotate_left
              · simp only [Act.put, List.setIfInBounds_toArray, List.set_cons_zero, List.set_cons_succ, i64_w, i32_w]
                rfl
              refine done_ (done_of HT_.out (by kernel_rfl)) ?_
              clear hHeld HT_ HW_
              go_wp2_with (first
                | ((with_reducible refine gate_load (ty := 27) rfl ?_); refine wpList_ldw ?_ 27 _ rfl ⟨gs, 0, none⟩ ?_ sj.V.toArray _ (HLD.out _ _ HSy.out) Tryd.underlying27 rfl (HSZ.out _ HO2.out) ?_; exact rfl; exact rfl; skip)
                | ((with_reducible refine gate_store (ty := 27) rfl ?_); refine Sep.store_own rfl 27 _ _ rfl rfl rfl HSy.out.up2 (HSZ.out _ HO2.out) ?aS (SL.V_all _) ?_; (case aS => rw [HSQ.out _ HO1.out, HSQ.out _ HO2.out]); intro w7 h7; have HS7 := Aside0.mk h7; clear h7))
              go_roundg (gk - 1)
              case measure => have := HJ.out; omega
              case rel => exact ⟨j + 1, by simp, ⟨by have := HJ.out; omega⟩, ⟨by rw [HPK.out]; unfold pickS; rw [if_pos ⟨rfl, ha, hp, ht⟩]; exact HS7.out.up1.drop⟩⟩
            · refine start_ (n := 23) (S := fun W => W.cell? ⟨gs, 0, none⟩ = some (.int .i64 sj.a) ∧ W.cell? ⟨gs, 2, none⟩ = some (.int .i64 sj.c) ∧ W.cell? ⟨gb, 2, none⟩ = some (.int .i64 bj.c)) (ds := []) (bb 23 0) (by kernel_rfl) rfl rfl (⟨blk_cell HSy.out.cells.1 0 |>.trans HE0.out, blk_cell HSy.out.cells.1 2 |>.trans HE2.out, blk_cell HSy.out.up2.cells.1 2 |>.trans HB2.out⟩) (fun hHeld => ?_); refine with_tabW rdd_tab rdd_bits (fun HT_ HW_ => ?_)
              generalize w5.drew = wd at hHeld HSy ⊢
              refine pure_ (i := 0) (N := (some 28)) (v := ?_) (a' := ?_) (bb 23 1) rfl rfl (any_of HT_.out (by kernel_rfl)) (fun _ _ _ h => h) (Or.inl ⟨by rfl, ?_⟩) ?_ ?_
              rotate_left
              · intro w'
                go_simp
                with_reducible rfl
              rotate_left
              · simp only [Act.put, List.setIfInBounds_toArray, List.set_cons_zero, List.set_cons_succ, i64_w, i32_w]
                rfl
              refine pure_ (i := 1) (N := (some 29)) (v := ?_) (a' := ?_) (bb 23 3) rfl rfl (any_of HT_.out (by kernel_rfl)) (fun _ _ _ h => h) (Or.inl ⟨by rfl, ?_⟩) ?_ ?_
              rotate_left
              · intro w'
                go_simp
                with_reducible rfl
              rotate_left
              · simp only [Act.put, List.setIfInBounds_toArray, List.set_cons_zero, List.set_cons_succ, i64_w, i32_w]
                rfl
              refine pure_ (i := 2) (N := (some 30)) (v := ?_) (a' := ?_) (bb 23 7) rfl rfl (any_of HT_.out (by kernel_rfl)) (fun _ _ _ h => h) (Or.inl ⟨by rfl, ?_⟩) ?_ ?_
              rotate_left
              · intro w'
                go_simp
                with_reducible rfl
              rotate_left
              · simp only [Act.put, List.setIfInBounds_toArray, List.set_cons_zero, List.set_cons_succ, i64_w, i32_w]
                rfl
              refine pure_ (i := 3) (N := (some 31)) (v := ?_) (a' := ?_) (bb 23 15) rfl rfl (any_of HT_.out (by kernel_rfl)) (fun _ _ _ h => h) (Or.inl ⟨by rfl, ?_⟩) ?_ ?_
              rotate_left
              · intro w'
                go_simp
                with_reducible rfl
              rotate_left
              · simp only [Act.put, List.setIfInBounds_toArray, List.set_cons_zero, List.set_cons_succ, i64_w, i32_w]
                rfl
              refine take_ (i := 4) (N := (some 32)) (v := ?_) (a' := ?_) (bb 23 31) rfl rfl (take_ofW HT_.out HW_.out (by kernel_rfl)) (fun _ _ _ h => h) (Or.inl ⟨by rfl, ?_⟩) hHeld ?_ ?_
              rotate_left
              · intro w' s0
                (try dsimp only at s0)
                go_simp
                with_reducible rfl
              rotate_left
              · simp only [Act.put, List.setIfInBounds_toArray, List.set_cons_zero, List.set_cons_succ, i64_w, i32_w]
                rfl
              refine pure_ (i := 5) (N := (some 33)) (v := ?_) (a' := ?_) (bb 23 63) rfl rfl (any_of HT_.out (by kernel_rfl)) (fun _ _ _ h => h) (Or.inl ⟨by rfl, ?_⟩) ?_ ?_
              rotate_left
              · intro w'
                go_simp
                with_reducible rfl
              rotate_left
              · simp only [Act.put, List.setIfInBounds_toArray, List.set_cons_zero, List.set_cons_succ, i64_w, i32_w]
                rfl
              refine one_ (i := 6) (N := (some 34)) (bb 23 127) rfl rfl (one_of HT_.out (by kernel_rfl)) (by decide) (fun K hK => ?_)
              refine goes_ Tryd.func47 (by kernel_rfl) rfl #[.pointer (some ⟨gd, 0, none⟩)] (by rfl) rfl rfl (by (try simp only [List.map_toArray, List.map_cons, List.map_nil]); first | done | rfl) ?_
              refine (HSC.out _ _ _ HSy.out.up1).mono ?_
              rintro e w6 ⟨rfl, rfl⟩
              refine ⟨_, rfl, ?_⟩
              refine hK.out _ _ (⟨blk_cell HSy.out.cells.1 0 |>.trans HE0.out, blk_cell HSy.out.cells.1 2 |>.trans HE2.out, blk_cell HSy.out.up2.cells.1 2 |>.trans HB2.out⟩) (fun hHeld => ?_)
              clear hK K
              refine norm_ (a' := ?_) ?_ ?_
              rotate_left
              · show Act.put _ (some 34) _ = _
                simp only [Act.put, List.setIfInBounds_toArray, List.set_cons_zero, List.set_cons_succ, i64_w, i32_w]
                rfl
              refine pure_ (i := 7) (N := (some 35)) (v := ?_) (a' := ?_) (bb 23 255) rfl rfl (any_of HT_.out (by kernel_rfl)) (fun _ _ _ h => h) (Or.inl ⟨by rfl, ?_⟩) ?_ ?_
              rotate_left
              · intro w'
                go_simp
                with_reducible rfl
              rotate_left
              · simp only [Act.put, List.setIfInBounds_toArray, List.set_cons_zero, List.set_cons_succ, i64_w, i32_w]
                rfl
              refine pure_ (i := 8) (N := (some 36)) (v := ?_) (a' := ?_) (bb 23 511) rfl rfl (any_of HT_.out (by kernel_rfl)) (fun _ _ _ h => h) (Or.inl ⟨by rfl, ?_⟩) ?_ ?_
              rotate_left
              · intro w'
                go_simp
                with_reducible rfl
              rotate_left
              · simp only [Act.put, List.setIfInBounds_toArray, List.set_cons_zero, List.set_cons_succ, i64_w, i32_w]
                rfl
              refine pure_ (i := 9) (N := (some 37)) (v := ?_) (a' := ?_) (bb 23 1023) rfl rfl (any_of HT_.out (by kernel_rfl)) (fun _ _ _ h => h) (Or.inl ⟨by rfl, ?_⟩) ?_ ?_
              rotate_left
              · intro w'
                go_simp
                with_reducible rfl
              rotate_left
              · simp only [Act.put, List.setIfInBounds_toArray, List.set_cons_zero, List.set_cons_succ, i64_w, i32_w]
                rfl
              refine pure_ (i := 10) (N := (some 38)) (v := ?_) (a' := ?_) (bb 23 2047) rfl rfl (any_of HT_.out (by kernel_rfl)) (fun _ _ _ h => h) (Or.inl ⟨by rfl, ?_⟩) ?_ ?_
              rotate_left
              · intro w'
                go_simp
                with_reducible rfl
              rotate_left
              · simp only [Act.put, List.setIfInBounds_toArray, List.set_cons_zero, List.set_cons_succ, i64_w, i32_w]
                rfl
              refine take_ (i := 11) (N := (some 39)) (v := ?_) (a' := ?_) (bb 23 4095) rfl rfl (take_ofW HT_.out HW_.out (by kernel_rfl)) (fun _ _ _ h => h) (Or.inl ⟨by rfl, ?_⟩) hHeld ?_ ?_
              rotate_left
              · intro w' s0
                (try dsimp only at s0)
                go_simp
                with_reducible rfl
              rotate_left
              · simp only [Act.put, List.setIfInBounds_toArray, List.set_cons_zero, List.set_cons_succ, i64_w, i32_w]
                rfl
              refine pure_ (i := 12) (N := (some 40)) (v := ?_) (a' := ?_) (bb 23 8191) rfl rfl (any_of HT_.out (by kernel_rfl)) (fun _ _ _ h => h) (Or.inl ⟨by rfl, ?_⟩) ?_ ?_
              rotate_left
              · intro w'
                go_simp
                with_reducible rfl
              rotate_left
              · simp only [Act.put, List.setIfInBounds_toArray, List.set_cons_zero, List.set_cons_succ, i64_w, i32_w]
                rfl
              refine pure_ (i := 13) (N := (some 41)) (v := ?_) (a' := ?_) (bb 23 16383) rfl rfl (any_of HT_.out (by kernel_rfl)) (fun _ _ _ h => h) (Or.inl ⟨by rfl, ?_⟩) ?_ ?_
              rotate_left
              · intro w'
                go_simp
                with_reducible rfl
              rotate_left
              · simp only [Act.put, List.setIfInBounds_toArray, List.set_cons_zero, List.set_cons_succ, i64_w, i32_w]
                rfl
              refine pure_ (i := 14) (N := (some 42)) (v := ?_) (a' := ?_) (bb 23 32767) rfl rfl (any_of HT_.out (by kernel_rfl)) (fun _ _ _ h => h) (Or.inl ⟨by rfl, ?_⟩) ?_ ?_
              rotate_left
              · intro w'
                go_simp
                with_reducible rfl
              rotate_left
              · simp only [Act.put, List.setIfInBounds_toArray, List.set_cons_zero, List.set_cons_succ, i64_w, i32_w]
                rfl
              refine pure_ (i := 15) (N := (some 43)) (v := ?_) (a' := ?_) (bb 23 65535) rfl rfl (any_of HT_.out (by kernel_rfl)) (fun _ _ _ h => h) (Or.inl ⟨by rfl, ?_⟩) ?_ ?_
              rotate_left
              · intro w'
                go_simp
                with_reducible rfl
              rotate_left
              · simp only [Act.put, List.setIfInBounds_toArray, List.set_cons_zero, List.set_cons_succ, i64_w, i32_w]
                rfl
              refine pure_ (i := 16) (N := (some 44)) (v := ?_) (a' := ?_) (bb 23 131071) rfl rfl (any_of HT_.out (by kernel_rfl)) (fun _ _ _ h => h) (Or.inl ⟨by rfl, ?_⟩) ?_ ?_
              rotate_left
              · intro w'
                go_simp
                with_reducible rfl
              rotate_left
              · simp only [Act.put, List.setIfInBounds_toArray, List.set_cons_zero, List.set_cons_succ, i64_w, i32_w]
                rfl
              refine pure_ (i := 17) (N := (some 45)) (v := ?_) (a' := ?_) (bb 23 262143) rfl rfl (any_of HT_.out (by kernel_rfl)) (fun _ _ _ h => h) (Or.inl ⟨by rfl, ?_⟩) ?_ ?_
              rotate_left
              · intro w'
                go_simp
                with_reducible rfl
              rotate_left
              · simp only [Act.put, List.setIfInBounds_toArray, List.set_cons_zero, List.set_cons_succ, i64_w, i32_w]
                rfl
              refine take_ (i := 18) (N := (some 46)) (v := ?_) (a' := ?_) (bb 23 524287) rfl rfl (take_ofW HT_.out HW_.out (by kernel_rfl)) (fun _ _ _ h => h) (Or.inl ⟨by rfl, ?_⟩) hHeld ?_ ?_
              rotate_left
              · intro w' s0
                (try dsimp only at s0)
                go_simp
                with_reducible rfl
              rotate_left
              · simp only [Act.put, List.setIfInBounds_toArray, List.set_cons_zero, List.set_cons_succ, i64_w, i32_w]
                rfl
              refine pure_ (i := 19) (N := (some 47)) (v := ?_) (a' := ?_) (bb 23 1048575) rfl rfl (any_of HT_.out (by kernel_rfl)) (fun _ _ _ h => h) (Or.inl ⟨by rfl, ?_⟩) ?_ ?_
              rotate_left
              · intro w'
                go_simp
                with_reducible rfl
              rotate_left
              · simp only [Act.put, List.setIfInBounds_toArray, List.set_cons_zero, List.set_cons_succ, i64_w, i32_w]
                rfl
              refine take_ (i := 20) (N := (some 48)) (v := ?_) (a' := ?_) (bb 23 2097151) rfl rfl (take_ofW HT_.out HW_.out (by kernel_rfl)) (fun _ _ _ h => h) (Or.inl ⟨by rfl, ?_⟩) hHeld ?_ ?_
              rotate_left
              · intro w' s0
                (try dsimp only at s0)
                go_simp
                with_reducible rfl
              rotate_left
              · simp only [Act.put, List.setIfInBounds_toArray, List.set_cons_zero, List.set_cons_succ, i64_w, i32_w]
                rfl
              refine pure_ (i := 21) (N := (some 49)) (v := ?_) (a' := ?_) (bb 23 4194303) rfl rfl (any_of HT_.out (by kernel_rfl)) (fun _ _ _ h => h) (Or.inl ⟨by rfl, ?_⟩) ?_ ?_
              rotate_left
              · intro w'
                go_simp
                with_reducible rfl
              rotate_left
              · simp only [Act.put, List.setIfInBounds_toArray, List.set_cons_zero, List.set_cons_succ, i64_w, i32_w]
                rfl
              refine pure_ (i := 22) (N := (some 50)) (v := ?_) (a' := ?_) (bb 23 8388607) rfl rfl (any_of HT_.out (by kernel_rfl)) (fun _ _ _ h => h) (Or.inl ⟨by rfl, ?_⟩) ?_ ?_
              rotate_left
              · intro w'
                go_simp
                with_reducible rfl
              rotate_left
              · simp only [Act.put, List.setIfInBounds_toArray, List.set_cons_zero, List.set_cons_succ, i64_w, i32_w]
                rfl
              refine done_ (done_of HT_.out (by kernel_rfl)) ?_
              clear hHeld HT_ HW_
              go_wp2
              go_roundg (gk - 1)
              case measure => have := HJ.out; omega
              case rel => exact ⟨j + 1, by simp, ⟨by have := HJ.out; omega⟩, ⟨by rw [HPK.out]; unfold pickS; rw [if_neg (by simp [ht])]; exact HSy.out.drop.up1⟩⟩
          · have hpb : (sj.c.tmod 2 == (j : Int)) = false := by simpa using hp
            refine start_ (n := 23) (S := fun W => W.cell? ⟨gs, 0, none⟩ = some (.int .i64 sj.a) ∧ W.cell? ⟨gs, 2, none⟩ = some (.int .i64 sj.c) ∧ W.cell? ⟨gb, 2, none⟩ = some (.int .i64 bj.c)) (ds := []) (bb 23 0) (by kernel_rfl) rfl rfl (⟨blk_cell HSy.out.cells.1 0 |>.trans HE0.out, blk_cell HSy.out.cells.1 2 |>.trans HE2.out, blk_cell HSy.out.up2.cells.1 2 |>.trans HB2.out⟩) (fun hHeld => ?_); refine with_tabW rdc_tab rdc_bits (fun HT_ HW_ => ?_)
            generalize w5.drew = wd at hHeld HSy ⊢
            refine pure_ (i := 0) (N := (some 28)) (v := ?_) (a' := ?_) (bb 23 1) rfl rfl (any_of HT_.out (by kernel_rfl)) (fun _ _ _ h => h) (Or.inl ⟨by rfl, ?_⟩) ?_ ?_
            rotate_left
            · intro w'
              go_simp
              with_reducible rfl
            rotate_left
            · simp only [Act.put, List.setIfInBounds_toArray, List.set_cons_zero, List.set_cons_succ, i64_w, i32_w]
              rfl
            refine pure_ (i := 1) (N := (some 29)) (v := ?_) (a' := ?_) (bb 23 3) rfl rfl (any_of HT_.out (by kernel_rfl)) (fun _ _ _ h => h) (Or.inl ⟨by rfl, ?_⟩) ?_ ?_
            rotate_left
            · intro w'
              go_simp
              with_reducible rfl
            rotate_left
            · simp only [Act.put, List.setIfInBounds_toArray, List.set_cons_zero, List.set_cons_succ, i64_w, i32_w]
              rfl
            refine pure_ (i := 2) (N := (some 30)) (v := ?_) (a' := ?_) (bb 23 7) rfl rfl (any_of HT_.out (by kernel_rfl)) (fun _ _ _ h => h) (Or.inl ⟨by rfl, ?_⟩) ?_ ?_
            rotate_left
            · intro w'
              go_simp
              with_reducible rfl
            rotate_left
            · simp only [Act.put, List.setIfInBounds_toArray, List.set_cons_zero, List.set_cons_succ, i64_w, i32_w]
              rfl
            refine pure_ (i := 3) (N := (some 31)) (v := ?_) (a' := ?_) (bb 23 15) rfl rfl (any_of HT_.out (by kernel_rfl)) (fun _ _ _ h => h) (Or.inl ⟨by rfl, ?_⟩) ?_ ?_
            rotate_left
            · intro w'
              go_simp
              with_reducible rfl
            rotate_left
            · simp only [Act.put, List.setIfInBounds_toArray, List.set_cons_zero, List.set_cons_succ, i64_w, i32_w]
              rfl
            refine take_ (i := 4) (N := (some 32)) (v := ?_) (a' := ?_) (bb 23 31) rfl rfl (take_ofW HT_.out HW_.out (by kernel_rfl)) (fun _ _ _ h => h) (Or.inl ⟨by rfl, ?_⟩) hHeld ?_ ?_
            rotate_left
            · intro w' s0
              (try dsimp only at s0)
              go_simp
              with_reducible rfl
            rotate_left
            · simp only [Act.put, List.setIfInBounds_toArray, List.set_cons_zero, List.set_cons_succ, i64_w, i32_w]
              rfl
            refine pure_ (i := 5) (N := (some 33)) (v := ?_) (a' := ?_) (bb 23 63) rfl rfl (any_of HT_.out (by kernel_rfl)) (fun _ _ _ h => h) (Or.inl ⟨by rfl, ?_⟩) ?_ ?_
            rotate_left
            · intro w'
              go_simp
              with_reducible rfl
            rotate_left
            · simp only [Act.put, List.setIfInBounds_toArray, List.set_cons_zero, List.set_cons_succ, i64_w, i32_w]
              rfl
            refine one_ (i := 6) (N := (some 34)) (bb 23 127) rfl rfl (one_of HT_.out (by kernel_rfl)) (by decide) (fun K hK => ?_)
            refine goes_ Tryd.func47 (by kernel_rfl) rfl #[.pointer (some ⟨gd, 0, none⟩)] (by rfl) rfl rfl (by (try simp only [List.map_toArray, List.map_cons, List.map_nil]); first | done | rfl) ?_
            refine (HSC.out _ _ _ HSy.out.up1).mono ?_
            rintro e w6 ⟨rfl, rfl⟩
            refine ⟨_, rfl, ?_⟩
            refine hK.out _ _ (⟨blk_cell HSy.out.cells.1 0 |>.trans HE0.out, blk_cell HSy.out.cells.1 2 |>.trans HE2.out, blk_cell HSy.out.up2.cells.1 2 |>.trans HB2.out⟩) (fun hHeld => ?_)
            clear hK K
            refine norm_ (a' := ?_) ?_ ?_
            rotate_left
            · show Act.put _ (some 34) _ = _
              simp only [Act.put, List.setIfInBounds_toArray, List.set_cons_zero, List.set_cons_succ, i64_w, i32_w]
              rfl
            refine pure_ (i := 7) (N := (some 35)) (v := ?_) (a' := ?_) (bb 23 255) rfl rfl (any_of HT_.out (by kernel_rfl)) (fun _ _ _ h => h) (Or.inl ⟨by rfl, ?_⟩) ?_ ?_
            rotate_left
            · intro w'
              go_simp
              with_reducible rfl
            rotate_left
            · simp only [Act.put, List.setIfInBounds_toArray, List.set_cons_zero, List.set_cons_succ, i64_w, i32_w]
              rfl
            refine pure_ (i := 8) (N := (some 36)) (v := ?_) (a' := ?_) (bb 23 511) rfl rfl (any_of HT_.out (by kernel_rfl)) (fun _ _ _ h => h) (Or.inl ⟨by rfl, ?_⟩) ?_ ?_
            rotate_left
            · intro w'
              go_simp
              with_reducible rfl
            rotate_left
            · simp only [Act.put, List.setIfInBounds_toArray, List.set_cons_zero, List.set_cons_succ, i64_w, i32_w]
              rfl
            refine pure_ (i := 9) (N := (some 37)) (v := ?_) (a' := ?_) (bb 23 1023) rfl rfl (any_of HT_.out (by kernel_rfl)) (fun _ _ _ h => h) (Or.inl ⟨by rfl, ?_⟩) ?_ ?_
            rotate_left
            · intro w'
              go_simp
              with_reducible rfl
            rotate_left
            · simp only [Act.put, List.setIfInBounds_toArray, List.set_cons_zero, List.set_cons_succ, i64_w, i32_w]
              rfl
            refine pure_ (i := 10) (N := (some 38)) (v := ?_) (a' := ?_) (bb 23 2047) rfl rfl (any_of HT_.out (by kernel_rfl)) (fun _ _ _ h => h) (Or.inl ⟨by rfl, ?_⟩) ?_ ?_
            rotate_left
            · intro w'
              go_simp
              with_reducible rfl
            rotate_left
            · simp only [Act.put, List.setIfInBounds_toArray, List.set_cons_zero, List.set_cons_succ, i64_w, i32_w]
              rfl
            refine take_ (i := 11) (N := (some 39)) (v := ?_) (a' := ?_) (bb 23 4095) rfl rfl (take_ofW HT_.out HW_.out (by kernel_rfl)) (fun _ _ _ h => h) (Or.inl ⟨by rfl, ?_⟩) hHeld ?_ ?_
            rotate_left
            · intro w' s0
              (try dsimp only at s0)
              go_simp
              with_reducible rfl
            rotate_left
            · simp only [Act.put, List.setIfInBounds_toArray, List.set_cons_zero, List.set_cons_succ, i64_w, i32_w]
              rfl
            refine pure_ (i := 12) (N := (some 40)) (v := ?_) (a' := ?_) (bb 23 8191) rfl rfl (any_of HT_.out (by kernel_rfl)) (fun _ _ _ h => h) (Or.inl ⟨by rfl, ?_⟩) ?_ ?_
            rotate_left
            · intro w'
              go_simp
              with_reducible rfl
            rotate_left
            · simp only [Act.put, List.setIfInBounds_toArray, List.set_cons_zero, List.set_cons_succ, i64_w, i32_w]
              rfl
            refine pure_ (i := 13) (N := (some 41)) (v := ?_) (a' := ?_) (bb 23 16383) rfl rfl (any_of HT_.out (by kernel_rfl)) (fun _ _ _ h => h) (Or.inl ⟨by rfl, ?_⟩) ?_ ?_
            rotate_left
            · intro w'
              go_simp
              with_reducible rfl
            rotate_left
            · simp only [Act.put, List.setIfInBounds_toArray, List.set_cons_zero, List.set_cons_succ, i64_w, i32_w]
              rfl
            refine pure_ (i := 14) (N := (some 42)) (v := ?_) (a' := ?_) (bb 23 32767) rfl rfl (any_of HT_.out (by kernel_rfl)) (fun _ _ _ h => h) (Or.inl ⟨by rfl, ?_⟩) ?_ ?_
            rotate_left
            · intro w'
              go_simp
              with_reducible rfl
            rotate_left
            · simp only [Act.put, List.setIfInBounds_toArray, List.set_cons_zero, List.set_cons_succ, i64_w, i32_w]
              rfl
            refine pure_ (i := 15) (N := (some 43)) (v := ?_) (a' := ?_) (bb 23 65535) rfl rfl (any_of HT_.out (by kernel_rfl)) (fun _ _ _ h => h) (Or.inl ⟨by rfl, ?_⟩) ?_ ?_
            rotate_left
            · intro w'
              go_simp
              with_reducible rfl
            rotate_left
            · simp only [Act.put, List.setIfInBounds_toArray, List.set_cons_zero, List.set_cons_succ, i64_w, i32_w]
              rfl
            refine pure_ (i := 16) (N := (some 44)) (v := ?_) (a' := ?_) (bb 23 131071) rfl rfl (any_of HT_.out (by kernel_rfl)) (fun _ _ _ h => h) (Or.inl ⟨by rfl, ?_⟩) ?_ ?_
            rotate_left
            · intro w'
              go_simp
              with_reducible rfl
            rotate_left
            · simp only [Act.put, List.setIfInBounds_toArray, List.set_cons_zero, List.set_cons_succ, i64_w, i32_w]
              rfl
            refine pure_ (i := 17) (N := (some 45)) (v := undef) (a' := ?_) (bb 23 262143) rfl rfl (any_of HT_.out (by kernel_rfl)) (fun _ _ _ h => h) (Or.inr ⟨by rfl, rfl⟩) ?_ ?_
            rotate_left
            · simp only [Act.put, List.setIfInBounds_toArray, List.set_cons_zero, List.set_cons_succ, i64_w, i32_w]
              rfl
            refine pure_ (i := 18) (N := (some 46)) (v := undef) (a' := ?_) (bb 23 524287) rfl rfl (any_of HT_.out (by kernel_rfl)) (fun _ _ _ h => h) (Or.inr ⟨by rfl, rfl⟩) ?_ ?_
            rotate_left
            · simp only [Act.put, List.setIfInBounds_toArray, List.set_cons_zero, List.set_cons_succ, i64_w, i32_w]
              rfl
            refine pure_ (i := 19) (N := (some 47)) (v := undef) (a' := ?_) (bb 23 1048575) rfl rfl (any_of HT_.out (by kernel_rfl)) (fun _ _ _ h => h) (Or.inr ⟨by rfl, rfl⟩) ?_ ?_
            rotate_left
            · simp only [Act.put, List.setIfInBounds_toArray, List.set_cons_zero, List.set_cons_succ, i64_w, i32_w]
              rfl
            refine pure_ (i := 20) (N := (some 48)) (v := undef) (a' := ?_) (bb 23 2097151) rfl rfl (any_of HT_.out (by kernel_rfl)) (fun _ _ _ h => h) (Or.inr ⟨by rfl, rfl⟩) ?_ ?_
            rotate_left
            · simp only [Act.put, List.setIfInBounds_toArray, List.set_cons_zero, List.set_cons_succ, i64_w, i32_w]
              rfl
            refine pure_ (i := 21) (N := (some 49)) (v := undef) (a' := ?_) (bb 23 4194303) rfl rfl (any_of HT_.out (by kernel_rfl)) (fun _ _ _ h => h) (Or.inr ⟨by rfl, rfl⟩) ?_ ?_
            rotate_left
            · simp only [Act.put, List.setIfInBounds_toArray, List.set_cons_zero, List.set_cons_succ, i64_w, i32_w]
              rfl
            refine pure_ (i := 22) (N := (some 50)) (v := ?_) (a' := ?_) (bb 23 8388607) rfl rfl (any_of HT_.out (by kernel_rfl)) (fun _ _ _ h => h) (Or.inl ⟨by rfl, ?_⟩) ?_ ?_
            rotate_left
            · intro w'
              go_simp
              with_reducible rfl
            rotate_left
            · simp only [Act.put, List.setIfInBounds_toArray, List.set_cons_zero, List.set_cons_succ, i64_w, i32_w]
              rfl
            refine done_ (done_of HT_.out (by kernel_rfl)) ?_
            clear hHeld HT_ HW_
            go_wp2
            go_roundg (gk - 1)
            case measure => have := HJ.out; omega
            case rel => exact ⟨j + 1, by simp, ⟨by have := HJ.out; omega⟩, ⟨by rw [HPK.out]; unfold pickS; rw [if_neg (by simp [hp])]; exact HSy.out.drop.up1⟩⟩
        · have hab : (sj.a == N) = false := by simpa using ha
          refine start_ (n := 23) (S := fun W => W.cell? ⟨gs, 0, none⟩ = some (.int .i64 sj.a) ∧ W.cell? ⟨gs, 2, none⟩ = some (.int .i64 sj.c) ∧ W.cell? ⟨gb, 2, none⟩ = some (.int .i64 bj.c)) (ds := []) (bb 23 0) (by kernel_rfl) rfl rfl (⟨blk_cell HSy.out.cells.1 0 |>.trans HE0.out, blk_cell HSy.out.cells.1 2 |>.trans HE2.out, blk_cell HSy.out.up2.cells.1 2 |>.trans HB2.out⟩) (fun hHeld => ?_); refine with_tabW rdb_tab rdb_bits (fun HT_ HW_ => ?_)
          generalize w5.drew = wd at hHeld HSy ⊢
          refine pure_ (i := 0) (N := (some 28)) (v := ?_) (a' := ?_) (bb 23 1) rfl rfl (any_of HT_.out (by kernel_rfl)) (fun _ _ _ h => h) (Or.inl ⟨by rfl, ?_⟩) ?_ ?_
          rotate_left
          · intro w'
            go_simp
            with_reducible rfl
          rotate_left
          · simp only [Act.put, List.setIfInBounds_toArray, List.set_cons_zero, List.set_cons_succ, i64_w, i32_w]
            rfl
          refine pure_ (i := 1) (N := (some 29)) (v := ?_) (a' := ?_) (bb 23 3) rfl rfl (any_of HT_.out (by kernel_rfl)) (fun _ _ _ h => h) (Or.inl ⟨by rfl, ?_⟩) ?_ ?_
          rotate_left
          · intro w'
            go_simp
            with_reducible rfl
          rotate_left
          · simp only [Act.put, List.setIfInBounds_toArray, List.set_cons_zero, List.set_cons_succ, i64_w, i32_w]
            rfl
          refine pure_ (i := 2) (N := (some 30)) (v := ?_) (a' := ?_) (bb 23 7) rfl rfl (any_of HT_.out (by kernel_rfl)) (fun _ _ _ h => h) (Or.inl ⟨by rfl, ?_⟩) ?_ ?_
          rotate_left
          · intro w'
            go_simp
            with_reducible rfl
          rotate_left
          · simp only [Act.put, List.setIfInBounds_toArray, List.set_cons_zero, List.set_cons_succ, i64_w, i32_w]
            rfl
          refine pure_ (i := 3) (N := (some 31)) (v := ?_) (a' := ?_) (bb 23 15) rfl rfl (any_of HT_.out (by kernel_rfl)) (fun _ _ _ h => h) (Or.inl ⟨by rfl, ?_⟩) ?_ ?_
          rotate_left
          · intro w'
            go_simp
            with_reducible rfl
          rotate_left
          · simp only [Act.put, List.setIfInBounds_toArray, List.set_cons_zero, List.set_cons_succ, i64_w, i32_w]
            rfl
          refine take_ (i := 4) (N := (some 32)) (v := ?_) (a' := ?_) (bb 23 31) rfl rfl (take_ofW HT_.out HW_.out (by kernel_rfl)) (fun _ _ _ h => h) (Or.inl ⟨by rfl, ?_⟩) hHeld ?_ ?_
          rotate_left
          · intro w' s0
            (try dsimp only at s0)
            go_simp
            with_reducible rfl
          rotate_left
          · simp only [Act.put, List.setIfInBounds_toArray, List.set_cons_zero, List.set_cons_succ, i64_w, i32_w]
            rfl
          refine pure_ (i := 5) (N := (some 33)) (v := ?_) (a' := ?_) (bb 23 63) rfl rfl (any_of HT_.out (by kernel_rfl)) (fun _ _ _ h => h) (Or.inl ⟨by rfl, ?_⟩) ?_ ?_
          rotate_left
          · intro w'
            go_simp
            with_reducible rfl
          rotate_left
          · simp only [Act.put, List.setIfInBounds_toArray, List.set_cons_zero, List.set_cons_succ, i64_w, i32_w]
            rfl
          refine one_ (i := 6) (N := (some 34)) (bb 23 127) rfl rfl (one_of HT_.out (by kernel_rfl)) (by decide) (fun K hK => ?_)
          refine goes_ Tryd.func47 (by kernel_rfl) rfl #[.pointer (some ⟨gd, 0, none⟩)] (by rfl) rfl rfl (by (try simp only [List.map_toArray, List.map_cons, List.map_nil]); first | done | rfl) ?_
          refine (HSC.out _ _ _ HSy.out.up1).mono ?_
          rintro e w6 ⟨rfl, rfl⟩
          refine ⟨_, rfl, ?_⟩
          refine hK.out _ _ (⟨blk_cell HSy.out.cells.1 0 |>.trans HE0.out, blk_cell HSy.out.cells.1 2 |>.trans HE2.out, blk_cell HSy.out.up2.cells.1 2 |>.trans HB2.out⟩) (fun hHeld => ?_)
          clear hK K
          refine norm_ (a' := ?_) ?_ ?_
          rotate_left
          · show Act.put _ (some 34) _ = _
            simp only [Act.put, List.setIfInBounds_toArray, List.set_cons_zero, List.set_cons_succ, i64_w, i32_w]
            rfl
          refine pure_ (i := 7) (N := (some 35)) (v := ?_) (a' := ?_) (bb 23 255) rfl rfl (any_of HT_.out (by kernel_rfl)) (fun _ _ _ h => h) (Or.inl ⟨by rfl, ?_⟩) ?_ ?_
          rotate_left
          · intro w'
            go_simp
            with_reducible rfl
          rotate_left
          · simp only [Act.put, List.setIfInBounds_toArray, List.set_cons_zero, List.set_cons_succ, i64_w, i32_w]
            rfl
          refine pure_ (i := 8) (N := (some 36)) (v := ?_) (a' := ?_) (bb 23 511) rfl rfl (any_of HT_.out (by kernel_rfl)) (fun _ _ _ h => h) (Or.inl ⟨by rfl, ?_⟩) ?_ ?_
          rotate_left
          · intro w'
            go_simp
            with_reducible rfl
          rotate_left
          · simp only [Act.put, List.setIfInBounds_toArray, List.set_cons_zero, List.set_cons_succ, i64_w, i32_w]
            rfl
          refine pure_ (i := 9) (N := (some 37)) (v := ?_) (a' := ?_) (bb 23 1023) rfl rfl (any_of HT_.out (by kernel_rfl)) (fun _ _ _ h => h) (Or.inl ⟨by rfl, ?_⟩) ?_ ?_
          rotate_left
          · intro w'
            go_simp
            with_reducible rfl
          rotate_left
          · simp only [Act.put, List.setIfInBounds_toArray, List.set_cons_zero, List.set_cons_succ, i64_w, i32_w]
            rfl
          refine pure_ (i := 10) (N := (some 38)) (v := undef) (a' := ?_) (bb 23 2047) rfl rfl (any_of HT_.out (by kernel_rfl)) (fun _ _ _ h => h) (Or.inr ⟨by rfl, rfl⟩) ?_ ?_
          rotate_left
          · simp only [Act.put, List.setIfInBounds_toArray, List.set_cons_zero, List.set_cons_succ, i64_w, i32_w]
            rfl
          refine pure_ (i := 11) (N := (some 39)) (v := undef) (a' := ?_) (bb 23 4095) rfl rfl (any_of HT_.out (by kernel_rfl)) (fun _ _ _ h => h) (Or.inr ⟨by rfl, rfl⟩) ?_ ?_
          rotate_left
          · simp only [Act.put, List.setIfInBounds_toArray, List.set_cons_zero, List.set_cons_succ, i64_w, i32_w]
            rfl
          refine pure_ (i := 12) (N := (some 40)) (v := undef) (a' := ?_) (bb 23 8191) rfl rfl (any_of HT_.out (by kernel_rfl)) (fun _ _ _ h => h) (Or.inr ⟨by rfl, rfl⟩) ?_ ?_
          rotate_left
          · simp only [Act.put, List.setIfInBounds_toArray, List.set_cons_zero, List.set_cons_succ, i64_w, i32_w]
            rfl
          refine pure_ (i := 13) (N := (some 41)) (v := undef) (a' := ?_) (bb 23 16383) rfl rfl (any_of HT_.out (by kernel_rfl)) (fun _ _ _ h => h) (Or.inr ⟨by rfl, rfl⟩) ?_ ?_
          rotate_left
          · simp only [Act.put, List.setIfInBounds_toArray, List.set_cons_zero, List.set_cons_succ, i64_w, i32_w]
            rfl
          refine pure_ (i := 14) (N := (some 42)) (v := undef) (a' := ?_) (bb 23 32767) rfl rfl (any_of HT_.out (by kernel_rfl)) (fun _ _ _ h => h) (Or.inr ⟨by rfl, rfl⟩) ?_ ?_
          rotate_left
          · simp only [Act.put, List.setIfInBounds_toArray, List.set_cons_zero, List.set_cons_succ, i64_w, i32_w]
            rfl
          refine pure_ (i := 15) (N := (some 43)) (v := ?_) (a' := ?_) (bb 23 65535) rfl rfl (any_of HT_.out (by kernel_rfl)) (fun _ _ _ h => h) (Or.inl ⟨by rfl, ?_⟩) ?_ ?_
          rotate_left
          · intro w'
            go_simp
            with_reducible rfl
          rotate_left
          · simp only [Act.put, List.setIfInBounds_toArray, List.set_cons_zero, List.set_cons_succ, i64_w, i32_w]
            rfl
          refine pure_ (i := 16) (N := (some 44)) (v := ?_) (a' := ?_) (bb 23 131071) rfl rfl (any_of HT_.out (by kernel_rfl)) (fun _ _ _ h => h) (Or.inl ⟨by rfl, ?_⟩) ?_ ?_
          rotate_left
          · intro w'
            go_simp
            with_reducible rfl
          rotate_left
          · simp only [Act.put, List.setIfInBounds_toArray, List.set_cons_zero, List.set_cons_succ, i64_w, i32_w]
            rfl
          refine pure_ (i := 17) (N := (some 45)) (v := undef) (a' := ?_) (bb 23 262143) rfl rfl (any_of HT_.out (by kernel_rfl)) (fun _ _ _ h => h) (Or.inr ⟨by rfl, rfl⟩) ?_ ?_
          rotate_left
          · simp only [Act.put, List.setIfInBounds_toArray, List.set_cons_zero, List.set_cons_succ, i64_w, i32_w]
            rfl
          refine pure_ (i := 18) (N := (some 46)) (v := undef) (a' := ?_) (bb 23 524287) rfl rfl (any_of HT_.out (by kernel_rfl)) (fun _ _ _ h => h) (Or.inr ⟨by rfl, rfl⟩) ?_ ?_
          rotate_left
          · simp only [Act.put, List.setIfInBounds_toArray, List.set_cons_zero, List.set_cons_succ, i64_w, i32_w]
            rfl
          refine pure_ (i := 19) (N := (some 47)) (v := undef) (a' := ?_) (bb 23 1048575) rfl rfl (any_of HT_.out (by kernel_rfl)) (fun _ _ _ h => h) (Or.inr ⟨by rfl, rfl⟩) ?_ ?_
          rotate_left
          · simp only [Act.put, List.setIfInBounds_toArray, List.set_cons_zero, List.set_cons_succ, i64_w, i32_w]
            rfl
          refine pure_ (i := 20) (N := (some 48)) (v := undef) (a' := ?_) (bb 23 2097151) rfl rfl (any_of HT_.out (by kernel_rfl)) (fun _ _ _ h => h) (Or.inr ⟨by rfl, rfl⟩) ?_ ?_
          rotate_left
          · simp only [Act.put, List.setIfInBounds_toArray, List.set_cons_zero, List.set_cons_succ, i64_w, i32_w]
            rfl
          refine pure_ (i := 21) (N := (some 49)) (v := undef) (a' := ?_) (bb 23 4194303) rfl rfl (any_of HT_.out (by kernel_rfl)) (fun _ _ _ h => h) (Or.inr ⟨by rfl, rfl⟩) ?_ ?_
          rotate_left
          · simp only [Act.put, List.setIfInBounds_toArray, List.set_cons_zero, List.set_cons_succ, i64_w, i32_w]
            rfl
          refine pure_ (i := 22) (N := (some 50)) (v := ?_) (a' := ?_) (bb 23 8388607) rfl rfl (any_of HT_.out (by kernel_rfl)) (fun _ _ _ h => h) (Or.inl ⟨by rfl, ?_⟩) ?_ ?_
          rotate_left
          · intro w'
            go_simp
            with_reducible rfl
          rotate_left
          · simp only [Act.put, List.setIfInBounds_toArray, List.set_cons_zero, List.set_cons_succ, i64_w, i32_w]
            rfl
          refine done_ (done_of HT_.out (by kernel_rfl)) ?_
          clear hHeld HT_ HW_
          go_wp2
          go_roundg (gk - 1)
          case measure => have := HJ.out; omega
          case rel => exact ⟨j + 1, by simp, ⟨by have := HJ.out; omega⟩, ⟨by rw [HPK.out]; unfold pickS; rw [if_neg (by simp [ha])]; exact HSy.out.drop.up1⟩⟩
      · subst h0
        refine start_ (n := 23) (S := fun W => W.cell? ⟨gs, 0, none⟩ = some (.int .i64 sj.a) ∧ W.cell? ⟨gs, 2, none⟩ = some (.int .i64 sj.c) ∧ W.cell? ⟨gb, 2, none⟩ = some (.int .i64 bj.c)) (ds := []) (bb 23 0) (by kernel_rfl) rfl rfl (⟨blk_cell HSy.out.cells.1 0 |>.trans HE0.out, blk_cell HSy.out.cells.1 2 |>.trans HE2.out, blk_cell HSy.out.up2.cells.1 2 |>.trans HB2.out⟩) (fun hHeld => ?_); refine with_tabW rda_tab rda_bits (fun HT_ HW_ => ?_)
        generalize w5.drew = wd at hHeld HSy ⊢
        refine pure_ (i := 0) (N := (some 28)) (v := ?_) (a' := ?_) (bb 23 1) rfl rfl (any_of HT_.out (by kernel_rfl)) (fun _ _ _ h => h) (Or.inl ⟨by rfl, ?_⟩) ?_ ?_
        rotate_left
        · intro w'
          go_simp
          with_reducible rfl
        rotate_left
        · simp only [Act.put, List.setIfInBounds_toArray, List.set_cons_zero, List.set_cons_succ, i64_w, i32_w]
          rfl
        refine pure_ (i := 1) (N := (some 29)) (v := ?_) (a' := ?_) (bb 23 3) rfl rfl (any_of HT_.out (by kernel_rfl)) (fun _ _ _ h => h) (Or.inl ⟨by rfl, ?_⟩) ?_ ?_
        rotate_left
        · intro w'
          go_simp
          with_reducible rfl
        rotate_left
        · simp only [Act.put, List.setIfInBounds_toArray, List.set_cons_zero, List.set_cons_succ, i64_w, i32_w]
          rfl
        refine pure_ (i := 2) (N := (some 30)) (v := ?_) (a' := ?_) (bb 23 7) rfl rfl (any_of HT_.out (by kernel_rfl)) (fun _ _ _ h => h) (Or.inl ⟨by rfl, ?_⟩) ?_ ?_
        rotate_left
        · intro w'
          go_simp
          with_reducible rfl
        rotate_left
        · simp only [Act.put, List.setIfInBounds_toArray, List.set_cons_zero, List.set_cons_succ, i64_w, i32_w]
          rfl
        refine pure_ (i := 3) (N := (some 31)) (v := undef) (a' := ?_) (bb 23 15) rfl rfl (any_of HT_.out (by kernel_rfl)) (fun _ _ _ h => h) (Or.inr ⟨by rfl, rfl⟩) ?_ ?_
        rotate_left
        · simp only [Act.put, List.setIfInBounds_toArray, List.set_cons_zero, List.set_cons_succ, i64_w, i32_w]
          rfl
        refine pure_ (i := 4) (N := (some 32)) (v := undef) (a' := ?_) (bb 23 31) rfl rfl (any_of HT_.out (by kernel_rfl)) (fun _ _ _ h => h) (Or.inr ⟨by rfl, rfl⟩) ?_ ?_
        rotate_left
        · simp only [Act.put, List.setIfInBounds_toArray, List.set_cons_zero, List.set_cons_succ, i64_w, i32_w]
          rfl
        refine pure_ (i := 5) (N := (some 33)) (v := undef) (a' := ?_) (bb 23 63) rfl rfl (any_of HT_.out (by kernel_rfl)) (fun _ _ _ h => h) (Or.inr ⟨by rfl, rfl⟩) ?_ ?_
        rotate_left
        · simp only [Act.put, List.setIfInBounds_toArray, List.set_cons_zero, List.set_cons_succ, i64_w, i32_w]
          rfl
        refine pure_ (i := 6) (N := (some 34)) (v := undef) (a' := ?_) (bb 23 127) rfl rfl (any_of HT_.out (by kernel_rfl)) (fun _ _ _ h => h) (Or.inr ⟨by rfl, rfl⟩) ?_ ?_
        rotate_left
        · simp only [Act.put, List.setIfInBounds_toArray, List.set_cons_zero, List.set_cons_succ, i64_w, i32_w]
          rfl
        refine pure_ (i := 7) (N := (some 35)) (v := undef) (a' := ?_) (bb 23 255) rfl rfl (any_of HT_.out (by kernel_rfl)) (fun _ _ _ h => h) (Or.inr ⟨by rfl, rfl⟩) ?_ ?_
        rotate_left
        · simp only [Act.put, List.setIfInBounds_toArray, List.set_cons_zero, List.set_cons_succ, i64_w, i32_w]
          rfl
        refine pure_ (i := 8) (N := (some 36)) (v := ?_) (a' := ?_) (bb 23 511) rfl rfl (any_of HT_.out (by kernel_rfl)) (fun _ _ _ h => h) (Or.inl ⟨by rfl, ?_⟩) ?_ ?_
        rotate_left
        · intro w'
          go_simp
          with_reducible rfl
        rotate_left
        · simp only [Act.put, List.setIfInBounds_toArray, List.set_cons_zero, List.set_cons_succ, i64_w, i32_w]
          rfl
        refine pure_ (i := 9) (N := (some 37)) (v := ?_) (a' := ?_) (bb 23 1023) rfl rfl (any_of HT_.out (by kernel_rfl)) (fun _ _ _ h => h) (Or.inl ⟨by rfl, ?_⟩) ?_ ?_
        rotate_left
        · intro w'
          go_simp
          with_reducible rfl
        rotate_left
        · simp only [Act.put, List.setIfInBounds_toArray, List.set_cons_zero, List.set_cons_succ, i64_w, i32_w]
          rfl
        refine pure_ (i := 10) (N := (some 38)) (v := undef) (a' := ?_) (bb 23 2047) rfl rfl (any_of HT_.out (by kernel_rfl)) (fun _ _ _ h => h) (Or.inr ⟨by rfl, rfl⟩) ?_ ?_
        rotate_left
        · simp only [Act.put, List.setIfInBounds_toArray, List.set_cons_zero, List.set_cons_succ, i64_w, i32_w]
          rfl
        refine pure_ (i := 11) (N := (some 39)) (v := undef) (a' := ?_) (bb 23 4095) rfl rfl (any_of HT_.out (by kernel_rfl)) (fun _ _ _ h => h) (Or.inr ⟨by rfl, rfl⟩) ?_ ?_
        rotate_left
        · simp only [Act.put, List.setIfInBounds_toArray, List.set_cons_zero, List.set_cons_succ, i64_w, i32_w]
          rfl
        refine pure_ (i := 12) (N := (some 40)) (v := undef) (a' := ?_) (bb 23 8191) rfl rfl (any_of HT_.out (by kernel_rfl)) (fun _ _ _ h => h) (Or.inr ⟨by rfl, rfl⟩) ?_ ?_
        rotate_left
        · simp only [Act.put, List.setIfInBounds_toArray, List.set_cons_zero, List.set_cons_succ, i64_w, i32_w]
          rfl
        refine pure_ (i := 13) (N := (some 41)) (v := undef) (a' := ?_) (bb 23 16383) rfl rfl (any_of HT_.out (by kernel_rfl)) (fun _ _ _ h => h) (Or.inr ⟨by rfl, rfl⟩) ?_ ?_
        rotate_left
        · simp only [Act.put, List.setIfInBounds_toArray, List.set_cons_zero, List.set_cons_succ, i64_w, i32_w]
          rfl
        refine pure_ (i := 14) (N := (some 42)) (v := undef) (a' := ?_) (bb 23 32767) rfl rfl (any_of HT_.out (by kernel_rfl)) (fun _ _ _ h => h) (Or.inr ⟨by rfl, rfl⟩) ?_ ?_
        rotate_left
        · simp only [Act.put, List.setIfInBounds_toArray, List.set_cons_zero, List.set_cons_succ, i64_w, i32_w]
          rfl
        refine pure_ (i := 15) (N := (some 43)) (v := ?_) (a' := ?_) (bb 23 65535) rfl rfl (any_of HT_.out (by kernel_rfl)) (fun _ _ _ h => h) (Or.inl ⟨by rfl, ?_⟩) ?_ ?_
        rotate_left
        · intro w'
          go_simp
          with_reducible rfl
        rotate_left
        · simp only [Act.put, List.setIfInBounds_toArray, List.set_cons_zero, List.set_cons_succ, i64_w, i32_w]
          rfl
        refine pure_ (i := 16) (N := (some 44)) (v := ?_) (a' := ?_) (bb 23 131071) rfl rfl (any_of HT_.out (by kernel_rfl)) (fun _ _ _ h => h) (Or.inl ⟨by rfl, ?_⟩) ?_ ?_
        rotate_left
        · intro w'
          go_simp
          with_reducible rfl
        rotate_left
        · simp only [Act.put, List.setIfInBounds_toArray, List.set_cons_zero, List.set_cons_succ, i64_w, i32_w]
          rfl
        refine pure_ (i := 17) (N := (some 45)) (v := undef) (a' := ?_) (bb 23 262143) rfl rfl (any_of HT_.out (by kernel_rfl)) (fun _ _ _ h => h) (Or.inr ⟨by rfl, rfl⟩) ?_ ?_
        rotate_left
        · simp only [Act.put, List.setIfInBounds_toArray, List.set_cons_zero, List.set_cons_succ, i64_w, i32_w]
          rfl
        refine pure_ (i := 18) (N := (some 46)) (v := undef) (a' := ?_) (bb 23 524287) rfl rfl (any_of HT_.out (by kernel_rfl)) (fun _ _ _ h => h) (Or.inr ⟨by rfl, rfl⟩) ?_ ?_
        rotate_left
        · simp only [Act.put, List.setIfInBounds_toArray, List.set_cons_zero, List.set_cons_succ, i64_w, i32_w]
          rfl
        refine pure_ (i := 19) (N := (some 47)) (v := undef) (a' := ?_) (bb 23 1048575) rfl rfl (any_of HT_.out (by kernel_rfl)) (fun _ _ _ h => h) (Or.inr ⟨by rfl, rfl⟩) ?_ ?_
        rotate_left
        · simp only [Act.put, List.setIfInBounds_toArray, List.set_cons_zero, List.set_cons_succ, i64_w, i32_w]
          rfl
        refine pure_ (i := 20) (N := (some 48)) (v := undef) (a' := ?_) (bb 23 2097151) rfl rfl (any_of HT_.out (by kernel_rfl)) (fun _ _ _ h => h) (Or.inr ⟨by rfl, rfl⟩) ?_ ?_
        rotate_left
        · simp only [Act.put, List.setIfInBounds_toArray, List.set_cons_zero, List.set_cons_succ, i64_w, i32_w]
          rfl
        refine pure_ (i := 21) (N := (some 49)) (v := undef) (a' := ?_) (bb 23 4194303) rfl rfl (any_of HT_.out (by kernel_rfl)) (fun _ _ _ h => h) (Or.inr ⟨by rfl, rfl⟩) ?_ ?_
        rotate_left
        · simp only [Act.put, List.setIfInBounds_toArray, List.set_cons_zero, List.set_cons_succ, i64_w, i32_w]
          rfl
        refine pure_ (i := 22) (N := (some 50)) (v := ?_) (a' := ?_) (bb 23 8388607) rfl rfl (any_of HT_.out (by kernel_rfl)) (fun _ _ _ h => h) (Or.inl ⟨by rfl, ?_⟩) ?_ ?_
        rotate_left
        · intro w'
          go_simp
          with_reducible rfl
        rotate_left
        · simp only [Act.put, List.setIfInBounds_toArray, List.set_cons_zero, List.set_cons_succ, i64_w, i32_w]
          rfl
        refine done_ (done_of HT_.out (by kernel_rfl)) ?_
        clear hHeld HT_ HW_
        go_wp2
        go_roundg (gk - 1)
        case measure => have := HJ.out; omega
        case rel => exact ⟨j + 1, by simp, ⟨by have := HJ.out; omega⟩, ⟨by rw [HPK.out]; unfold pickS; rw [if_neg (by simp)]; exact HSy.out.drop.up1⟩⟩
    · have hj2 : j = 2 := by have := HJ.out; omega
      subst hj2
      have HO1 := Aside0.mk (HOK.out 2)
      have HRS := Aside0.mk (show readS N cur = (if (bestJ N cur 2).c < 0 then noSL else bestJ N cur 2) from rfl)
      have HRE := Aside0.mk (show readE N cur = (if (bestJ N cur 2).c < 0 then 180 else 0) from rfl)
      generalize hb : bestJ N cur 2 = bj at HO1 HRS HRE hS
      have HSZ1 := Aside0.mk (HSZ.out _ HO1.out)
      have HSQ1 := Aside0.mk (show Z.size = bj.V.toArray.size from by rw [HZS.out, HSQ.out _ HO1.out])
      have HLD := Aside0.mk (show ∀ j v, bj.V.toArray.toList[j]? = some v → wr.cell? ((⟨gb, 0, none⟩ : Addr).add j) = some v from fun j v hv => seg_at hS.out.cells.1 0 bj.V (by rw [List.drop_zero]; exact List.take_of_length_le (Nat.le_refl _)) j v (by simpa using hv))
      have x0 : wr.cell? ⟨gb, 2, none⟩ = some (.int .i64 bj.c) := (blk_cell hS.out.cells.1 2).trans (by simpa using bj.V2)
      clear hb HOK HJ hj HDC HRD HSC HDO
      by_cases hc : bj.c < 0
      · have HC := Aside0.mk hc
        have HZZ := Aside0.mk (show (Tryd.prog.info? 27).map (·.size) = some Z.size from size27 HZS.out)
        have HZA := Aside0.mk (show Z.all (·.oneCell') = true from by rw [← HZ.out]; exact SL.V_all _)
        go_wp2_with (first
          | ((with_reducible refine gate_build (ty := 27) rfl ?_); refine wpList_buildTo rfl 27 _ rfl (some 56) rfl Z ?aB ?_; (case aB => (simp only [List.map_toArray, List.map_nil]; exact HBZ.out)))
          | ((with_reducible refine gate_store (ty := 27) rfl ?_); refine Sep.store_own rfl 27 _ _ rfl rfl rfl hS.out.up2 HZZ.out rfl HZA.out ?_; intro w8 h8; have HS8 := Aside0.mk h8; clear h8))
        refine bodyPost_ret (results_row_tmp (p := 2) (u := 3) (ty := 27) rfl _ _ gr 27 Z (0, 0) _ _ rfl rfl HS8.out.cells.1 Tryd.underlying27 rfl HZZ.out) rfl ⟨by rw [HRS.out, HRE.out, if_pos HC.out, if_pos HC.out, HZ.out]; rfl, ?_⟩
        exact HS8.out.drop.drop
      · have HC := Aside0.mk hc
        go_wp2_with (first
          | ((with_reducible refine gate_load (ty := 27) rfl ?_); refine wpList_ldw ?_ 27 _ rfl ⟨gb, 0, none⟩ ?_ bj.V.toArray _ HLD.out Tryd.underlying27 rfl HSZ1.out ?_; exact rfl; exact rfl; skip)
          | ((with_reducible refine gate_store (ty := 27) rfl ?_); refine Sep.store_own rfl 27 _ _ rfl rfl rfl hS.out.up2 HSZ1.out HSQ1.out (SL.V_all _) ?_; intro w8 h8; have HS8 := Aside0.mk h8; clear h8))
        refine bodyPost_ret (results_row_tmp (p := 2) (u := 3) (ty := 27) rfl _ _ gr 27 _ (0, 0) _ _ rfl rfl HS8.out.cells.1 Tryd.underlying27 rfl HSZ1.out) rfl ⟨by rw [HRS.out, HRE.out, if_neg (by have := HC.out; omega), if_neg (by have := HC.out; omega)]; rfl, ?_⟩
        exact HS8.out.drop.drop
end Go.Proofs.YtaflofcnjakaaaaDoor.M

namespace Go.Proofs.YtaflofcnjakaaaaDoor.M
open Go.RowKit Go.Maps Go.Proofs.YtaflofcnjakaaaaDoorW.PrintWords Go.Proofs.YtaflofcnjakaaaaDoorW.PrintLast Go.Proofs.YtaflofcnjakaaaaDoorW.PrintMore Go.Proofs.YtaflofcnjakaaaaDoor.Wr Go.Proofs.YtaflofcnjakaaaaDoor.Pl Go.Proofs.YtaflofcnjakaaaaDoor.P Go.Proofs.YtaflofcnjakaaaaDoor.A
set_option linter.unusedVariables false
set_option linter.unusedSimpArgs false
theorem eqItems_same (d : Nat) (l : List Int) (W : World) : ∀ is : List Nat, (∀ i, i ∈ is → i < l.length) → (Op.eqItems (d + 1) 5 1 (nums .u8 l).toArray (nums .u8 l).toArray is).run Tryd.prog W = .ok true W
  | [], _ => by simp [Op.eqItems]
  | i :: is, h => by
    have hu : Tryd.prog.underlying 5 = some (.int .u8) := by kernel_rfl
    have hp : (Go.part 5 (nums .u8 l).toArray (i * 1)).run Tryd.prog W = .ok (.int .u8 (l.getD i 0)) W := by
      have hagg : (isAgg 5).run Tryd.prog W = .ok false W := by
        unfold isAgg
        rw [Sem.run_bind, run_underlying hu W]
        simp
      unfold Go.part
      rw [Sem.run_bind, hagg]
      simp only [Result.andThen_ok, Nat.mul_one, Bool.false_eq_true, if_false]
      have e : (nums .u8 l).toArray[i]? = some (.int .u8 (l.getD i 0)) := by
        unfold nums
        have hi := h i (by simp)
        simp [List.getElem?_eq_getElem hi]
      rw [e]
      simp
    have he : (Op.equalIn (d + 1) 5 (.int .u8 (l.getD i 0)) (.int .u8 (l.getD i 0))).run Tryd.prog W = .ok true W := by
      simp [Op.equalIn, Sem.run_bind, run_underlying hu]
    simp only [Op.eqItems, Sem.run_bind, hp, he, Result.andThen_ok, Bool.not_true, Bool.false_eq_true, if_false]
    exact eqItems_same d l W is (fun j hj => h j (by simp [hj]))
theorem eq_key (d : Nat) (l : List Int) (hl : l.length = 32) (W : World) : (Op.equalIn (d + 2) 23 (.agg (nums .u8 l).toArray) (.agg (nums .u8 l).toArray)).run Tryd.prog W = .ok true W := by
  obtain ⟨i, hi, _, hsz, _⟩ := info_parts info_u8
  have hc : Tryd.prog.cellsOf 5 = 1 := by kernel_rfl
  rw [run_equalIn_array W (d + 1) (t := 23) (e := 5) (n := 32) (nums .u8 l).toArray (nums .u8 l).toArray Tryd.underlying23 hi, hc]
  exact eqItems_same d l W _ (fun j hj => by rw [hl]; exact List.mem_range.1 hj)
theorem eqFields_same (d : Nat) (xs : Array Value) (W : World) : ∀ fs : List Field, (∀ f ∈ fs, ∃ v, (part f.type xs f.offset).run Tryd.prog W = .ok v W ∧ (Op.equalIn d f.type v v).run Tryd.prog W = .ok true W) → (Op.eqFields d xs xs fs).run Tryd.prog W = .ok true W
  | [], _ => by simp [Op.eqFields]
  | f :: fs, h => by
    obtain ⟨v, hp, he⟩ := h f (by simp)
    unfold Op.eqFields
    rw [Sem.run_ite]
    split
    · simp only [Sem.run_bind, hp, he, Result.andThen_ok, Bool.not_true, Bool.false_eq_true, if_false]
      exact eqFields_same d xs W fs (fun g hg => h g (by simp [hg]))
    · exact eqFields_same d xs W fs (fun g hg => h g (by simp [hg]))
theorem part_int {xs : List Value} {o : Nat} {n : Int} (W : World) (h : xs[o]? = some (.int .i64 n)) : (part 3 xs.toArray o).run Tryd.prog W = .ok (.int .i64 n) W := by
  have hu : Tryd.prog.underlying 3 = some (.int .i64) := by kernel_rfl
  have hagg : (isAgg 3).run Tryd.prog W = .ok false W := by
    unfold isAgg
    rw [Sem.run_bind, run_underlying hu W]
    simp
  unfold Go.part
  rw [Sem.run_bind, hagg]
  simp only [Result.andThen_ok, Bool.false_eq_true, if_false]
  have e : xs.toArray[o]? = some (.int .i64 n) := by simpa using h
  rw [e]
  simp
theorem part_agg {t : TypeId} {d : TypeDesc} {xs ys : List Value} {o : Nat} (W : World) (hu : Tryd.prog.underlying t = some d) (hd : (match d with | .struct _ | .array _ _ => true | _ => false) = true) (hs : (Tryd.prog.info? t).map (·.size) = some ys.length) (h : (xs.drop o).take ys.length = ys) : (part t xs.toArray o).run Tryd.prog W = .ok (.agg ys.toArray) W := by
  have hagg : (isAgg t).run Tryd.prog W = .ok true W := by
    unfold isAgg
    rw [Sem.run_bind, run_underlying hu W]
    cases d <;> simp_all
  cases hq : Tryd.prog.info? t with
  | none => simp [hq] at hs
  | some i =>
    have hsz : i.size = ys.length := by simpa [hq] using hs
    have hlen : o + ys.length ≤ xs.length ∨ ys.length = 0 := by
      have := congrArg List.length h
      simp at this
      omega
    unfold Go.part
    rw [Sem.run_bind, hagg]
    simp [sizeOf, typeInfo, hq, hsz]
    simpa using h
theorem flds25 : (Tryd.prog.fieldsOf 25).toList.map (fun f => (f.type, f.offset)) = [(23, 0), (3, 32), (3, 33)] := by kernel_rfl
theorem flds27 : (Tryd.prog.fieldsOf 27).toList.map (fun f => (f.type, f.offset)) = [(3, 0), (3, 1), (3, 2), (3, 3), (3, 4), (23, 5), (25, 37), (25, 71)] := by kernel_rfl
theorem eq_int (d : Nat) (n : Int) (W : World) : (Op.equalIn (d + 1) 3 (.int .i64 n) (.int .i64 n)).run Tryd.prog W = .ok true W := by
  have hu : Tryd.prog.underlying 3 = some (.int .i64) := by kernel_rfl
  simp [Op.equalIn, Sem.run_bind, run_underlying hu]
theorem eq_ref (d : Nat) {h : List Int} (hh : h.length = 32) (f l : Int) (W : World) : (Op.equalIn (d + 3) 25 (.agg (refV h f l).toArray) (.agg (refV h f l).toArray)).run Tryd.prog W = .ok true W := by
  rw [run_equalIn_struct W (d + 2) 25 _ _ (by kernel_rfl) (by kernel_rfl)]
  refine eqFields_same (d + 2) _ W _ (fun fl hf => ?_)
  have hm : (fl.type, fl.offset) ∈ (Tryd.prog.fieldsOf 25).toList.map (fun f => (f.type, f.offset)) := List.mem_map.2 ⟨fl, hf, rfl⟩
  rw [flds25] at hm
  simp only [List.mem_cons, List.not_mem_nil, or_false, Prod.mk.injEq] at hm
  have r32 := refV_f hh f l []
  have r33 := refV_l hh f l []
  rw [List.append_nil] at r32 r33
  rcases hm with ⟨e1, e2⟩ | ⟨e1, e2⟩ | ⟨e1, e2⟩ <;> rw [e1, e2]
  · exact ⟨_, part_agg (ys := nums .u8 h) W Tryd.underlying23 rfl (size23 (by rw [nums_length, hh])) (by rw [List.drop_zero]; unfold refV; exact take_app rfl), eq_key d h hh W⟩
  · exact ⟨_, part_int W r32, eq_int (d + 1) f W⟩
  · exact ⟨_, part_int W r33, eq_int (d + 1) l W⟩
theorem eq_slot (d : Nat) {s : SL} (hs : s.Ok) (W : World) : (Op.equalIn (d + 4) 27 (.agg s.V.toArray) (.agg s.V.toArray)).run Tryd.prog W = .ok true W := by
  rw [run_equalIn_struct W (d + 3) 27 _ _ (by kernel_rfl) (by kernel_rfl)]
  refine eqFields_same (d + 3) _ W _ (fun fl hf => ?_)
  have hm : (fl.type, fl.offset) ∈ (Tryd.prog.fieldsOf 27).toList.map (fun f => (f.type, f.offset)) := List.mem_map.2 ⟨fl, hf, rfl⟩
  rw [flds27] at hm
  simp only [List.mem_cons, List.not_mem_nil, or_false, Prod.mk.injEq] at hm
  rcases hm with ⟨e1, e2⟩ | ⟨e1, e2⟩ | ⟨e1, e2⟩ | ⟨e1, e2⟩ | ⟨e1, e2⟩ | ⟨e1, e2⟩ | ⟨e1, e2⟩ | ⟨e1, e2⟩ <;> rw [e1, e2]
  · exact ⟨_, part_int W s.V0, eq_int (d + 2) _ W⟩
  · exact ⟨_, part_int W s.V1, eq_int (d + 2) _ W⟩
  · exact ⟨_, part_int W s.V2, eq_int (d + 2) _ W⟩
  · exact ⟨_, part_int W s.V3, eq_int (d + 2) _ W⟩
  · exact ⟨_, part_int W s.V4, eq_int (d + 2) _ W⟩
  · exact ⟨_, part_agg (ys := nums .u8 s.key) W Tryd.underlying23 rfl (size23 (by rw [nums_length, hs.k])) (by have := SL.V_key hs; rwa [nums_length]), eq_key (d + 1) _ hs.k W⟩
  · exact ⟨_, part_agg (ys := refV s.rh s.rf s.rl) W Tryd.underlying25 rfl (size25 (refV_len hs.r _ _)) (SL.V_root hs), eq_ref d hs.r _ _ W⟩
  · exact ⟨_, part_agg (ys := refV s.mh s.mf s.ml) W Tryd.underlying25 rfl (size25 (refV_len hs.m _ _)) (SL.V_memo hs), eq_ref d hs.m _ _ W⟩
theorem eql_slot {s : SL} (hs : s.Ok) (W : World) : (Op.equalIn 10000 27 (.agg s.V.toArray) (.agg s.V.toArray)).run Tryd.prog W = .ok true W := eq_slot 9996 hs W
def easySL : SL := ⟨40, 8, 0, 0, 0, z32, z32, 10, 0, z32, 11, 2⟩
theorem easy_ok : easySL.Ok := ⟨z32_ok.1, z32_ok.1, z32_ok.1, z32_ok.2, z32_ok.2, z32_ok.2⟩
theorem easy_may : mayM easySL = true := by kernel_rfl
set_option maxRecDepth 100000 in
theorem easy_ref1 : Tryd.prog.built 25 [(1, .int .i64 10), (2, .int .i64 0)] = some (refV z32 10 0).toArray := by kernel_rfl
set_option maxRecDepth 100000 in
theorem easy_ref2 : Tryd.prog.built 25 [(1, .int .i64 11), (2, .int .i64 2)] = some (refV z32 11 2).toArray := by kernel_rfl
set_option maxRecDepth 100000 in
theorem easy_built : Tryd.prog.built 27 [(0, .int .i64 40), (1, .int .i64 8), (2, .int .i64 0), (3, .int .i64 0), (4, .int .i64 0), (6, .agg (refV z32 10 0).toArray), (7, .agg (refV z32 11 2).toArray)] = some easySL.V.toArray := by kernel_rfl
set_option maxHeartbeats 8000000 in
set_option maxRecDepth 100000 in
theorem Sep.easy {w0 w : World} {L : List Th} (h : Sep w0 w L) : Calls Tryd.prog 55 #[.int .i64 0] w fun e w' => e = .returned (.agg easySL.V.toArray) ∧ Sep w0 w' L := by
  have HS0 := Aside0.mk h
  have HR1 := Aside0.mk easy_ref1
  have HR2 := Aside0.mk easy_ref2
  have HBE := Aside0.mk easy_built
  generalize (refV z32 10 0).toArray = R1 at HR1 HBE
  generalize (refV z32 11 2).toArray = R2 at HR2 HBE
  have HSZ := Aside0.mk (show (Tryd.prog.info? 27).map (·.size) = some easySL.V.toArray.size from size27 (by simpa using SL.V_len easy_ok))
  have hz := (zero_of_info (P := Tryd.prog) (t := 27) (v := .agg noSL.V.toArray) (n := 105) (by kernel_rfl)).1
  have HQ := Aside0.mk (show noSL.V.toArray.size = easySL.V.toArray.size from by simp only [List.size_toArray]; rw [SL.V_len noSL_ok, SL.V_len easy_ok])
  have HA := Aside0.mk (SL.V_all easySL)
  generalize easySL.V.toArray = E at HBE HSZ HQ HA ⊢
  generalize noSL.V.toArray = Z at hz HQ
  clear h
  go_enter Tryd.func55, Tryd.ntmps55
  go_upto_region 1 with (fail)
  have HS1 := Aside0.mk (HS0.out.push_alloc Z 27)
  generalize w.alloc (.cells Z 27) = w1 at HS1 ⊢
  generalize w.heap.size = gr at HS1 ⊢
  go_wp2_with (first
    | ((with_reducible refine gate_build (ty := 25) rfl ?_); refine wpList_buildTo rfl 25 _ rfl (some 13) rfl R1 ?aB ?_; (case aB => (simp only [List.map_toArray, List.map_cons, List.map_nil]; exact HR1.out)))
    | ((with_reducible refine gate_build (ty := 25) rfl ?_); refine wpList_buildTo rfl 25 _ rfl (some 14) rfl R2 ?aB ?_; (case aB => (simp only [List.map_toArray, List.map_cons, List.map_nil]; exact HR2.out)))
    | ((with_reducible refine gate_build (ty := 27) rfl ?_); refine wpList_buildTo rfl 27 _ rfl (some 15) rfl E ?aB ?_; (case aB => (simp only [List.map_toArray, List.map_cons, List.map_nil]; exact HBE.out)))
    | ((with_reducible refine gate_store (ty := 27) rfl ?_); refine Sep.store_own rfl 27 _ _ rfl rfl rfl HS1.out HSZ.out HQ.out HA.out ?_; intro w3 h3; have HS2 := Aside0.mk h3; clear h3))
  refine bodyPost_ret (results_cell_row (p := 2) (ty := 27) rfl _ _ gr 27 E (0, 0) _ rfl HS2.out.cells.1 Tryd.underlying27 rfl HSZ.out) rfl ⟨rfl, ?_⟩
  exact HS2.out.drop
end Go.Proofs.YtaflofcnjakaaaaDoor.M

namespace Go.Proofs.YtaflofcnjakaaaaDoor.M
open Go.RowKit Go.Maps Go.Proofs.YtaflofcnjakaaaaDoorW.PrintWords Go.Proofs.YtaflofcnjakaaaaDoorW.PrintLast Go.Proofs.YtaflofcnjakaaaaDoorW.PrintMore Go.Proofs.YtaflofcnjakaaaaDoor.Wr Go.Proofs.YtaflofcnjakaaaaDoor.Pl Go.Proofs.YtaflofcnjakaaaaDoor.P Go.Proofs.YtaflofcnjakaaaaDoor.A
set_option linter.unusedVariables false
set_option linter.unusedSimpArgs false
section
variable {P : Program} {ops : Array Oper} {rest : List Oper} {o : Oper} {a : Act} {w : World} {Q : Exit → Act → World → Prop}
theorem gate_eql {t t2 : TypeId} {x y : Operand} (_ho : o.op = .binOp .eql t x y t2) (h : wpList P ops Q (o :: rest) a w) : wpList P ops Q (o :: rest) a w := h
theorem wpList_eqlw (hw : Region.wanted o (yielded ops a.tmps) = true) (t t2 : TypeId) (x y : Operand) (ho : o.op = .binOp .eql t x y t2) (cs : Array Value) (hx : a.eval x = .agg cs) (hy : a.eval y = .agg cs) (hg : P.eqGuardType P.depth t = false)
    (he : (Op.equalIn 10000 t (.agg cs) (.agg cs)).run P w = .ok true w) (h : wpList P ops Q rest (a.put o.dst (.bool true)) w) : wpList P ops Q (o :: rest) a w :=
  wpList_step fun K hK => by
    rw [if_pos hw]
    unfold Oper.wp execOp
    have hb : (binOp .eql t (.agg cs) (.agg cs)).run P w = .ok (.bool true) w := by rw [run_eql_struct, he]; rfl
    have hgd : (eqGuard .eql t x y (.agg cs) (.agg cs)).run P w = .ok () w := run_eqGuard_agg w .eql t x y cs cs hg
    simp only [ho, hx, hy, Sem.run_bind, hgd, hb, Result.andThen_ok, Sem.run_pure]
    exact hK _ _ h
end
theorem guard27 : Tryd.prog.eqGuardType Tryd.prog.depth 27 = false := by kernel_rfl
theorem zeros_bytes : bytes_ zeros := fun x hx => by rw [List.eq_of_mem_replicate hx]; omega
theorem zeros_no : decB zeros = none := by
  have h : (readL zeros).a = 0 := by kernel_rfl
  unfold decB
  rw [if_neg]
  rintro ⟨_, h2, _⟩
  have := ((may_iff _).1 h2).a1
  omega
theorem bytes_nil : bytes_ [] := fun x hx => by simp at hx
theorem getD_rep {n j : Nat} (h : j < n) : (List.replicate n zeros).getD j [] = zeros := by
  rw [List.getD_eq_getElem?_getD, List.getElem?_replicate_of_lt h]
  rfl
def easyD : DS := DS.fresh 40 (List.replicate 40 zeros)
def easyD2 : DS := (easyD.put 0 (encB easySL)).flush
theorem flush_cur (s : DS) {j : Nat} (h : j < s.n) : s.flush.cur j = s.cur j := by
  unfold DS.flush
  show (match ([] : List (List Int)).getLast? with | some b => b | none => ((List.range s.n).map s.cur).getD j []) = _
  rw [List.getD_eq_getElem?_getD]
  simp [h]
theorem flush_cur_no (s : DS) {j : Nat} (h : ¬ j < s.n) : s.flush.cur j = [] := by
  unfold DS.flush
  show (match ([] : List (List Int)).getLast? with | some b => b | none => ((List.range s.n).map s.cur).getD j []) = _
  rw [List.getD_eq_getElem?_getD]
  simp [h]
theorem put_cur (s : DS) (i : Nat) (b : List Int) : (s.put i b).cur i = b := by
  unfold DS.put DS.cur
  simp
theorem put_cur_ne (s : DS) {i j : Nat} (b : List Int) (h : j ≠ i) : (s.put i b).cur j = s.cur j := by
  unfold DS.put DS.cur
  simp [h]
theorem fresh_cur {n j : Nat} (h : j < n) : (DS.fresh n (List.replicate n zeros)).cur j = zeros := by
  show (List.replicate n zeros).getD j [] = _
  exact getD_rep h
theorem easy_cur0 : easyD2.cur 0 = encB easySL := by
  unfold easyD2
  rw [flush_cur _ (show 0 < 40 by decide), put_cur]
theorem easy_cur1 : easyD2.cur 1 = zeros := by
  unfold easyD2
  rw [flush_cur _ (show 1 < 40 by decide), put_cur_ne _ _ (by decide)]
  exact fresh_cur (by decide)
theorem easy_bytes (j : Nat) : bytes_ (easyD2.cur j) := by
  by_cases h : j < 40
  · by_cases h0 : j = 0
    · subst h0; rw [easy_cur0]; exact bytes_encB easy_ok
    · unfold easyD2
      rw [flush_cur _ (show j < 40 from h), put_cur_ne _ _ h0]
      show bytes_ ((DS.fresh 40 (List.replicate 40 zeros)).cur j)
      rw [fresh_cur h]
      exact zeros_bytes
  · unfold easyD2
    rw [flush_cur_no _ (show ¬ j < 40 from h)]
    exact bytes_nil
theorem easy_len (j : Nat) (hj : j < 2) : (easyD2.cur j).length = 512 := by
  rcases (show j = 0 ∨ j = 1 by omega) with rfl | rfl
  · rw [easy_cur0]; exact encB_len easy_ok
  · rw [easy_cur1]; exact zeros_len
theorem easy_best : bestJ 40 easyD2.cur 2 = easySL := by
  have h0 := decS_yes (dec_enc easy_ok ((may_iff _).1 easy_may))
  have h1 := decS_no zeros_no
  unfold bestJ bestJ bestJ
  rw [easy_cur0, easy_cur1, h0.1, h0.2, h1.1, h1.2]
  unfold pickS
  rw [if_neg (by decide), if_pos (by decide)]
theorem easy_read : readS 40 easyD2.cur = easySL ∧ readE 40 easyD2.cur = 0 := by
  unfold readS readE
  rw [easy_best]
  exact ⟨if_neg (by decide), if_neg (by decide)⟩
set_option maxHeartbeats 8000000 in
set_option maxRecDepth 100000 in
theorem Sep.started {w0 w : World} {L : List Th} (h : Sep w0 w L) (hH : Wr.Half w0) : Calls Tryd.prog 31 #[] w fun e w' => e = .returned (.bool true) ∧ Sep w0 w' L := by
  have HS0 := Aside0.mk h
  have HNW := Aside0.mk (fun W (M : List Th) (h : Sep w0 W M) => (show Calls Tryd.prog 15 #[.int .i64 40] W (fun e w' => ∃ g, e = .returned (.tuple #[.pointer (some ⟨g, 0, none⟩), .int .i64 0]) ∧ Sep w0 w' (dkT g easyD :: M)) from Sep.new h 40 (by decide) (by decide)))
  have HWR := Aside0.mk (fun W (M : List Th) gd (h : Sep w0 W (dkT gd easyD :: M)) => (show Calls Tryd.prog 17 #[.pointer (some ⟨gd, 0, none⟩), .agg easySL.V.toArray] W (fun e w' => ∃ gx ge, e = .returned (.tuple #[.pointer (some ⟨gx, 0, none⟩), .int .i64 0]) ∧ Sep w0 w' (wrT gx ge gd 0 (encB easySL) 0 ++ dkT gd easyD :: M)) from Sep.writer h hH easySL easy_ok easy_may rfl))
  have HT0 := Aside0.mk (fun W (M : List Th) gx ge gd (h : Sep w0 W (wrT gx ge gd 0 (encB easySL) 0 ++ dkT gd easyD :: M)) => Sep.step0 (i := 0) h rfl (show 0 < 40 by decide) (show 0 < 1073741824 by decide) (encB_len easy_ok))
  have HT1 := Aside0.mk (fun W (M : List Th) gx ge gd (h : Sep w0 W (wrT gx ge gd 0 (encB easySL) 1 ++ dkT gd (easyD.put 0 (encB easySL)) :: M)) => Sep.step1 h)
  have HRS := Aside0.mk (fun W (M : List Th) gd (h : Sep w0 W (dkT gd easyD2 :: M)) => (show Calls Tryd.prog 28 #[.pointer (some ⟨gd, 0, none⟩)] W (fun e w' => e = .returned (.tuple #[.agg easySL.V.toArray, .int .i64 0]) ∧ Sep w0 w' (dkT gd (easyD2.readsJ 2) :: M)) from by
    have h3 := Sep.readSlot h hH (show 2 ≤ 40 by decide) easy_bytes easy_len
    rw [show ((easyD2.n : Nat) : Int) = 40 from rfl, easy_read.1, easy_read.2] at h3
    exact h3))
  have HSZ := Aside0.mk (show (Tryd.prog.info? 27).map (·.size) = some easySL.V.toArray.size from size27 (by simpa using SL.V_len easy_ok))
  have hz := (zero_of_info (P := Tryd.prog) (t := 27) (v := .agg noSL.V.toArray) (n := 105) (by kernel_rfl)).1
  have HQ := Aside0.mk (show noSL.V.toArray.size = easySL.V.toArray.size from by simp only [List.size_toArray]; rw [SL.V_len noSL_ok, SL.V_len easy_ok])
  have HA := Aside0.mk (SL.V_all easySL)
  have HES := Aside0.mk (fun W (M : List Th) (h : Sep w0 W M) => Sep.easy h)
  have HEQ := Aside0.mk (fun W => eql_slot easy_ok W)
  have HLV := Aside0.mk (fun W (M : List Th) g (h : Sep w0 W (cellsT g easySL.V.toArray 27 :: M)) => (show ∀ j v, easySL.V.toArray.toList[j]? = some v → W.cell? ((⟨g, 0, none⟩ : Addr).add j) = some v from fun j v hv => seg_at h.cells.1 0 easySL.V (by rw [List.drop_zero]; exact List.take_of_length_le (Nat.le_refl _)) j v (by simpa using hv)))
  clear h hH
  generalize easySL.V.toArray = E at HWR HRS HSZ HQ HA HES HEQ HLV ⊢
  generalize noSL.V.toArray = Z at hz HQ
  generalize hEB : encB easySL = eb at HWR HT0 HT1
  have HEB := Aside0.mk hEB
  clear hEB
  generalize hD0 : easyD = D0 at HNW HWR HT0 HT1
  have HD0 := Aside0.mk hD0
  clear hD0
  have HD2 := Aside0.mk (show (D0.put 0 eb).flush = easyD2 from by rw [← HD0.out, ← HEB.out]; rfl)
  generalize easyD2 = D2 at HRS HD2
  generalize D0.put 0 eb = D1 at HT0 HT1 HD2
  generalize D1.flush = D1f at HT1 HD2
  have hd2 := HD2.out
  clear HD2
  subst hd2
  go_enter Tryd.func31, Tryd.ntmps31
  go_upto_region 2 with (go_at_call 15; (with_reducible refine (HNW.out _ _ HS0.out).mono ?_); rintro e w1 ⟨gd, rfl, h1⟩; have HS1 := Aside0.mk h1; clear h1 HS0)
  go_upto_region 3 with (first
    | (go_at_call 55; (with_reducible refine (HES.out _ _ HS1.out).mono ?_); rintro e w2 ⟨rfl, h2⟩; have HS2 := Aside0.mk h2; clear h2 HS1)
    | ((with_reducible refine gate_store (ty := 27) rfl ?_); refine Sep.store_own rfl 27 _ _ rfl rfl rfl (HS2.out.push_alloc Z 27) HSZ.out HQ.out HA.out ?_; intro w3 h3; have HS3 := Aside0.mk h3; clear h3))
  generalize w2.heap.size = g3 at HS3 ⊢
  clear HS2
  go_upto_region 4 with (first
    | ((with_reducible refine gate_load (ty := 27) rfl ?_); refine wpList_ldw ?_ 27 _ rfl ⟨g3, 0, none⟩ ?_ E _ (HLV.out _ _ _ HS3.out) Tryd.underlying27 rfl HSZ.out ?_; exact rfl; exact rfl; skip)
    | (go_at_call 17; (with_reducible refine (HWR.out _ _ _ HS3.out.up1).mono ?_); rintro e w4 ⟨gx, ge, rfl, h4⟩; have HS4 := Aside0.mk h4; clear h4 HS3))
  go_upto_region 7 with (go_at_call 19; (with_reducible refine (HT0.out _ _ _ _ _ HS4.out).mono ?_); rintro e w5 ⟨rfl, h5⟩; have HS5 := Aside0.mk h5; clear h5 HS4)
  go_upto_region 8 with (go_at_call 19; (with_reducible refine (HT1.out _ _ _ _ _ HS5.out).mono ?_); rintro e w6 ⟨rfl, h6⟩; have HS6 := Aside0.mk (show Sep w0 w6 (dkT gd D1f :: cellsT g3 E 27 :: L) from h6.drop.drop); clear h6 HS5)
  go_upto_region 9 with (first
    | (go_at_call 28; (with_reducible refine (HRS.out _ _ _ HS6.out).mono ?_); rintro e w7 ⟨rfl, h7⟩; have HS7 := Aside0.mk h7; clear h7 HS6)
    | ((with_reducible refine gate_store (ty := 27) rfl ?_); refine Sep.store_own rfl 27 _ _ rfl rfl rfl (HS7.out.push_alloc Z 27) HSZ.out HQ.out HA.out ?_; intro w8 h8; have HS8 := Aside0.mk h8; clear h8))
  generalize w7.heap.size = g6 at HS8 ⊢
  clear HS7
  go_wp2_with (first
    | ((with_reducible refine gate_load (ty := 27) rfl ?_); refine wpList_ldw ?_ 27 _ rfl ⟨g6, 0, none⟩ ?_ E _ (HLV.out _ _ _ HS8.out) Tryd.underlying27 rfl HSZ.out ?_; exact rfl; exact rfl; skip)
    | ((with_reducible refine gate_load (ty := 27) rfl ?_); refine wpList_ldw ?_ 27 _ rfl ⟨g3, 0, none⟩ ?_ E _ (HLV.out _ _ _ HS8.out.up2) Tryd.underlying27 rfl HSZ.out ?_; exact rfl; exact rfl; skip)
    | ((with_reducible refine gate_eql (t := 27) rfl ?_); refine wpList_eqlw ?_ 27 27 _ _ rfl E ?_ ?_ guard27 (HEQ.out _) ?_; exact rfl; exact rfl; exact rfl; skip))
  go_ret
  exact ⟨rfl, HS8.out.drop.drop.drop⟩
end Go.Proofs.YtaflofcnjakaaaaDoor.M

namespace Go.Proofs.YtaflofcnjakaaaaDoor.M
open Go.RowKit Go.Maps Go.Proofs.YtaflofcnjakaaaaDoorW.PrintWords Go.Proofs.YtaflofcnjakaaaaDoorW.PrintLast Go.Proofs.YtaflofcnjakaaaaDoorW.PrintMore Go.Proofs.YtaflofcnjakaaaaDoor.Wr Go.Proofs.YtaflofcnjakaaaaDoor.Pl Go.Proofs.YtaflofcnjakaaaaDoor.P Go.Proofs.YtaflofcnjakaaaaDoor.A
set_option linter.unusedVariables false
set_option linter.unusedSimpArgs false
set_option maxHeartbeats 8000000 in
set_option maxRecDepth 100000 in
theorem fits_calls (s : SL) (hs : s.Ok) (h : List Int) (f l : Int) (hh : h.length = 32) (w : World) (hb : -1000000 ≤ s.b ∧ s.b ≤ 1000000) :
    Calls Tryd.prog 54 #[.agg s.V.toArray, .agg (refV h f l).toArray] w fun e w' => e = .returned (.bool (refM s f l)) ∧ Below w.heap.size w w' := by
  have HS := Aside0.mk (SlAt.mk (heap_alloc_new w (.cells s.V.toArray 27)) hs)
  have HB0 := Aside0.mk (below_alloc (Below.refl w.heap.size w) (.cells s.V.toArray 27))
  have HR := Aside0.mk (fun W => heap_alloc_new W (.cells (refV h f l).toArray 25))
  have HF := Aside0.mk (show ∀ (W : World) (g : Nat), W.heap[g]? = some (.cells (refV h f l).toArray 25 (0, 0)) → W.cell? ⟨g, 32, none⟩ = some (.int .i64 f) ∧ W.cell? ⟨g, 33, none⟩ = some (.int .i64 l) from fun W g hg => by
    have r32 := refV_f hh f l []
    have r33 := refV_l hh f l []
    rw [List.append_nil] at r32 r33
    exact ⟨cell_at hg 32 r32, cell_at hg 33 r33⟩)
  have hb1 := hb.1
  have hb2 := hb.2
  clear hb hh hs
  generalize (refV h f l).toArray = cr at HR HF ⊢
  generalize hV : s.V.toArray = V at HB0 ⊢
  rw [hV] at HS
  clear hV
  go_enter Tryd.func54, Tryd.ntmps54
  go_upto_region 1 with (fail)
  have HB := Aside0.mk (below_alloc HB0.out (.cells cr 25))
  have x0 := (HS.out.below (below_alloc (Below.refl _ _) (.cells cr 25))).c0
  have x1 := (HS.out.below (below_alloc (Below.refl _ _) (.cells cr 25))).c1
  have x2 := (HF.out _ _ (HR.out (w.alloc (.cells V 27)))).1
  have x3 := (HF.out _ _ (HR.out (w.alloc (.cells V 27)))).2
  have hsz : (w.alloc (.cells V 27)).heap.size = w.heap.size + 1 := by show (w.heap.push _).size = _; simp
  rw [hsz] at x2 x3
  generalize (w.alloc (.cells V 27)).alloc (.cells cr 25) = w1 at HB x0 x1 x2 x3 ⊢
  clear hsz HS HB0 HR HF
  by_cases h0 : 2 + s.b ≤ f
  · have t1 : decide (2 + s.b ≤ f) = true := decide_eq_true h0
    by_cases h1 : f < s.a
    · have t2 : decide (f < s.a) = true := decide_eq_true h1
      by_cases h2 : 0 ≤ l
      · have t3 : decide (0 ≤ l) = true := decide_eq_true h2
        by_cases h3 : l ≤ 1048576
        · have t4 : decide (l ≤ 1048576) = true := decide_eq_true h3
          go_wp2
          go_ret
          exact ⟨by unfold refM; rw [t1, t2, t3, t4]; rfl, HB.out⟩
        · have t4 : decide (l ≤ 1048576) = false := decide_eq_false h3
          go_wp2
          go_ret
          exact ⟨by unfold refM; rw [t1, t2, t3, t4]; rfl, HB.out⟩
      · have t3 : decide (0 ≤ l) = false := decide_eq_false h2
        go_wp2
        go_ret
        exact ⟨by unfold refM; rw [t1, t2, t3]; rfl, HB.out⟩
    · have t2 : decide (f < s.a) = false := decide_eq_false h1
      go_wp2
      go_ret
      exact ⟨by unfold refM; rw [t1, t2]; rfl, HB.out⟩
  · have t1 : decide (2 + s.b ≤ f) = false := decide_eq_false h0
    go_wp2
    go_ret
    exact ⟨by unfold refM; rw [t1]; rfl, HB.out⟩
set_option maxHeartbeats 16000000 in
set_option maxRecDepth 100000 in
theorem may30_calls (s : SL) (hs : s.Ok) (w : World) : Calls Tryd.prog 30 #[.agg s.V.toArray] w fun e w' => e = .returned (.bool (mayM s)) ∧ Below w.heap.size w w' := by
  have HB := Aside0.mk (below_alloc (Below.refl w.heap.size w) (.cells s.V.toArray 27))
  have HS := Aside0.mk (SlAt.mk (heap_alloc_new w (.cells s.V.toArray 27)) hs)
  have HOK := Aside0.mk hs
  have HNO := Aside0.mk (show ¬ s.May → mayM s = false from fun h => by
    cases h2 : mayM s with
    | false => rfl
    | true => exact absurd ((may_iff s).1 h2) h)
  have HYES := Aside0.mk (show headM s = true → cntM s.c = true → cntM s.d = true → cntM s.e = true → mayM s = (refM s s.rf s.rl && refM s s.mf s.ml) from fun h1 h2 h3 h4 => by unfold mayM; rw [h1, h2, h3, h4]; simp)
  have HF1 := Aside0.mk (fun (hb : -1000000 ≤ s.b ∧ s.b ≤ 1000000) W => fits_calls s hs s.rh s.rf s.rl hs.r W hb)
  have HF2 := Aside0.mk (fun (hb : -1000000 ≤ s.b ∧ s.b ≤ 1000000) W => fits_calls s hs s.mh s.mf s.ml hs.m W hb)
  have HSA := Aside0.mk (SlAt.sa hs)
  have HSR := Aside0.mk (SlAt.sr hs)
  have HSM := Aside0.mk (SlAt.sm hs)
  clear hs
  have HCUT := Aside0.mk (show ∀ (e : Ending) (w' : World) (b : Bool), e = .returned (.bool b) → b = mayM s → Below w.heap.size w w' → e = .returned (.bool (mayM s)) ∧ Below w.heap.size w w' from fun e w' b he hb hw => ⟨by rw [he, hb], hw⟩)
  generalize hV : s.V.toArray = V at HB HF1 HF2 HSA ⊢
  rw [hV] at HS
  have HLD := Aside0.mk (fun W (h : SlAt W w.heap.size s) => (show ∀ j v, V.toList[j]? = some v → W.cell? ((⟨w.heap.size, 0, none⟩ : Addr).add j) = some v from by rw [← hV]; exact h.all))
  go_enter Tryd.func30, Tryd.ntmps30
  go_upto_region 1 with (fail)
  clear hV
  generalize w.alloc (.cells V 27) = w1 at HB HS ⊢
  generalize w.heap.size = gb at HS HLD ⊢
  have x0 := HS.out.c0
  have x1 := HS.out.c1
  have x2 := HS.out.c2
  have x3 := HS.out.c3
  have x4 := HS.out.c4
  by_cases h0 : s.a < 2
  · have t0 : decide (s.a < 2) = true := decide_eq_true h0
    have HN := Aside0.mk (HNO.out (fun hm => by obtain ⟨a1, a2, b1, b2, ab, c, d, e, r, m⟩ := hm; omega))
    clear HNO HYES HF1 HF2
    go_wp2
    go_ret
    exact HCUT.out _ _ _ rfl (by rw [HN.out]) HB.out
  have t0 : decide (s.a < 2) = false := decide_eq_false h0
  by_cases h1 : 65536 < s.a
  · have t1 : decide (65536 < s.a) = true := decide_eq_true h1
    have HN := Aside0.mk (HNO.out (fun hm => by obtain ⟨a1, a2, b1, b2, ab, c, d, e, r, m⟩ := hm; omega))
    clear HNO HYES HF1 HF2
    go_wp2
    go_ret
    exact HCUT.out _ _ _ rfl (by rw [HN.out]) HB.out
  have t1 : decide (65536 < s.a) = false := decide_eq_false h1
  by_cases h2 : s.b < 8
  · have t2 : decide (s.b < 8) = true := decide_eq_true h2
    have HN := Aside0.mk (HNO.out (fun hm => by obtain ⟨a1, a2, b1, b2, ab, c, d, e, r, m⟩ := hm; omega))
    clear HNO HYES HF1 HF2
    go_wp2
    go_ret
    exact HCUT.out _ _ _ rfl (by rw [HN.out]) HB.out
  have t2 : decide (s.b < 8) = false := decide_eq_false h2
  by_cases h3 : 1024 < s.b
  · have t3 : decide (1024 < s.b) = true := decide_eq_true h3
    have HN := Aside0.mk (HNO.out (fun hm => by obtain ⟨a1, a2, b1, b2, ab, c, d, e, r, m⟩ := hm; omega))
    clear HNO HYES HF1 HF2
    go_wp2
    go_ret
    exact HCUT.out _ _ _ rfl (by rw [HN.out]) HB.out
  have t3 : decide (1024 < s.b) = false := decide_eq_false h3
  by_cases h4 : s.a < 4 + s.b
  · have t4 : decide (s.a < 4 + s.b) = true := decide_eq_true h4
    have HN := Aside0.mk (HNO.out (fun hm => by obtain ⟨a1, a2, b1, b2, ab, c, d, e, r, m⟩ := hm; omega))
    clear HNO HYES HF1 HF2
    go_wp2
    go_ret
    exact HCUT.out _ _ _ rfl (by rw [HN.out]) HB.out
  have t4 : decide (s.a < 4 + s.b) = false := decide_eq_false h4
  by_cases h5 : s.c < 0
  · have t5 : decide (s.c < 0) = true := decide_eq_true h5
    have HN := Aside0.mk (HNO.out (fun hm => by obtain ⟨a1, a2, b1, b2, ab, c, d, e, r, m⟩ := hm; omega))
    clear HNO HYES HF1 HF2
    go_wp2
    go_ret
    exact HCUT.out _ _ _ rfl (by rw [HN.out]) HB.out
  have t5 : decide (s.c < 0) = false := decide_eq_false h5
  by_cases h6 : s.d < 0
  · have t6 : decide (s.d < 0) = true := decide_eq_true h6
    have HN := Aside0.mk (HNO.out (fun hm => by obtain ⟨a1, a2, b1, b2, ab, c, d, e, r, m⟩ := hm; omega))
    clear HNO HYES HF1 HF2
    go_wp2
    go_ret
    exact HCUT.out _ _ _ rfl (by rw [HN.out]) HB.out
  have t6 : decide (s.d < 0) = false := decide_eq_false h6
  by_cases h7 : s.e < 0
  · have t7 : decide (s.e < 0) = true := decide_eq_true h7
    have HN := Aside0.mk (HNO.out (fun hm => by obtain ⟨a1, a2, b1, b2, ab, c, d, e, r, m⟩ := hm; omega))
    clear HNO HYES HF1 HF2
    go_wp2
    go_ret
    exact HCUT.out _ _ _ rfl (by rw [HN.out]) HB.out
  have t7 : decide (s.e < 0) = false := decide_eq_false h7
  by_cases h8 : 1099511627776 < s.c
  · have t8 : decide (1099511627776 < s.c) = true := decide_eq_true h8
    have HN := Aside0.mk (HNO.out (fun hm => by obtain ⟨a1, a2, b1, b2, ab, c, d, e, r, m⟩ := hm; omega))
    clear HNO HYES HF1 HF2
    go_wp2
    go_ret
    exact HCUT.out _ _ _ rfl (by rw [HN.out]) HB.out
  have t8 : decide (1099511627776 < s.c) = false := decide_eq_false h8
  by_cases h9 : 1099511627776 < s.d
  · have t9 : decide (1099511627776 < s.d) = true := decide_eq_true h9
    have HN := Aside0.mk (HNO.out (fun hm => by obtain ⟨a1, a2, b1, b2, ab, c, d, e, r, m⟩ := hm; omega))
    clear HNO HYES HF1 HF2
    go_wp2
    go_ret
    exact HCUT.out _ _ _ rfl (by rw [HN.out]) HB.out
  have t9 : decide (1099511627776 < s.d) = false := decide_eq_false h9
  by_cases h10 : 1099511627776 < s.e
  · have t10 : decide (1099511627776 < s.e) = true := decide_eq_true h10
    have HN := Aside0.mk (HNO.out (fun hm => by obtain ⟨a1, a2, b1, b2, ab, c, d, e, r, m⟩ := hm; omega))
    clear HNO HYES HF1 HF2
    go_wp2
    go_ret
    exact HCUT.out _ _ _ rfl (by rw [HN.out]) HB.out
  have t10 : decide (1099511627776 < s.e) = false := decide_eq_false h10
  have HY := Aside0.mk (HYES.out (by unfold headM; simp only [Bool.and_eq_true, decide_eq_true_iff]; omega) (by unfold cntM; simp only [Bool.and_eq_true, decide_eq_true_iff]; omega) (by unfold cntM; simp only [Bool.and_eq_true, decide_eq_true_iff]; omega) (by unfold cntM; simp only [Bool.and_eq_true, decide_eq_true_iff]; omega))
  have HG1 := Aside0.mk (HF1.out (by omega))
  have HG2 := Aside0.mk (HF2.out (by omega))
  clear HNO HYES HF1 HF2
  go_upto_region 5 with (fail)
  clear x0 x1 x2 x3 x4 h0 h1 h2 h3 h4 h5 h6 h7 h8 h9 h10 t0 t1 t2 t3 t4 t5 t6 t7 t8 t9 t10
  have x1 := HS.out.c1
  cases hr : refM s s.rf s.rl with
  | false =>
    go_wp2_with (first
      | ((with_reducible refine gate_load (ty := 27) rfl ?_); refine wpList_ldw ?_ 27 _ rfl ⟨gb, 0, none⟩ ?_ V _ (HLD.out _ HS.out) Tryd.underlying27 rfl HSA.out ?_; exact rfl; exact rfl; skip)
      | ((with_reducible refine gate_load (ty := 25) rfl ?_); refine wpList_ldw ?_ 25 _ rfl ⟨gb, 37, none⟩ ?_ (refV s.rh s.rf s.rl).toArray _ HS.out.root Tryd.underlying25 rfl HSR.out ?_; exact rfl; exact rfl; skip)
      | (go_at_call 54; (with_reducible refine (HG1.out _).mono ?_); rintro e w2 ⟨rfl, hb⟩; rw [hr]; have HB2 := Aside0.mk (below_step HB.out hb); clear hb))
    go_ret
    exact HCUT.out _ _ _ rfl (by rw [HY.out, hr]; rfl) HB2.out
  | true =>
    go_wp2_with (first
      | ((with_reducible refine gate_load (ty := 27) rfl ?_); refine wpList_ldw ?_ 27 _ rfl ⟨gb, 0, none⟩ ?_ V _ (HLD.out _ HS.out) Tryd.underlying27 rfl HSA.out ?_; exact rfl; exact rfl; skip)
      | ((with_reducible refine gate_load (ty := 25) rfl ?_); refine wpList_ldw ?_ 25 _ rfl ⟨gb, 37, none⟩ ?_ (refV s.rh s.rf s.rl).toArray _ HS.out.root Tryd.underlying25 rfl HSR.out ?_; exact rfl; exact rfl; skip)
      | (go_at_call 54; (with_reducible refine (HG1.out _).mono ?_); rintro e w2 ⟨rfl, hb⟩; rw [hr]; have HB2 := Aside0.mk (below_step HB.out hb); have HS2 := Aside0.mk (HS.out.below hb); clear hb HG1)
      | ((with_reducible refine gate_load (ty := 27) rfl ?_); refine wpList_ldw ?_ 27 _ rfl ⟨gb, 0, none⟩ ?_ V _ (HLD.out _ HS2.out) Tryd.underlying27 rfl HSA.out ?_; exact rfl; exact rfl; skip)
      | ((with_reducible refine gate_load (ty := 25) rfl ?_); refine wpList_ldw ?_ 25 _ rfl ⟨gb, 71, none⟩ ?_ (refV s.mh s.mf s.ml).toArray _ HS2.out.memo Tryd.underlying25 rfl HSM.out ?_; exact rfl; exact rfl; skip)
      | (go_at_call 54; (with_reducible refine (HG2.out _).mono ?_); rintro e w3 ⟨rfl, hb⟩; have HB3 := Aside0.mk (below_step HB2.out hb); clear hb))
    go_ret
    exact HCUT.out _ _ _ rfl (by rw [HY.out, hr]; rfl) HB3.out
end Go.Proofs.YtaflofcnjakaaaaDoor.M

namespace Go.Proofs.YtaflofcnjakaaaaDoor.M
open Go.RowKit Go.Maps Go.Proofs.YtaflofcnjakaaaaDoorW.PrintWords Go.Proofs.YtaflofcnjakaaaaDoorW.PrintLast Go.Proofs.YtaflofcnjakaaaaDoorW.PrintMore Go.Proofs.YtaflofcnjakaaaaDoor.Wr Go.Proofs.YtaflofcnjakaaaaDoor.Pl Go.Proofs.YtaflofcnjakaaaaDoor.P Go.Proofs.YtaflofcnjakaaaaDoor.A
set_option linter.unusedVariables false
set_option linter.unusedSimpArgs false
theorem ReadsB.cells {w0 : World} {L : List Th} {ge ty : Nat} {b : List Int} (hl : b.length = 512) : ReadsB w0 (cellsT ge (nums .u8 b).toArray ty :: L) (some ⟨ge, 0, none⟩) b := fun W M hs h =>
  C_segn (hs.sep h).cells.1 0 b 512 hl (by rw [List.drop_zero]; exact List.take_of_length_le (by rw [nums_length, hl]; exact Nat.le_refl _)) (by decide)
end Go.Proofs.YtaflofcnjakaaaaDoor.M

namespace Go.Proofs.YtaflofcnjakaaaaDoor.M
open Go.RowKit Go.Maps Go.Proofs.YtaflofcnjakaaaaDoorW.PrintWords Go.Proofs.YtaflofcnjakaaaaDoorW.PrintLast Go.Proofs.YtaflofcnjakaaaaDoorW.PrintMore Go.Proofs.YtaflofcnjakaaaaDoor.Wr Go.Proofs.YtaflofcnjakaaaaDoor.Pl Go.Proofs.YtaflofcnjakaaaaDoor.P Go.Proofs.YtaflofcnjakaaaaDoor.A
set_option linter.unusedVariables false
set_option linter.unusedSimpArgs false
theorem Sep.push_lit {w0 w : World} {L : List Th} (h : Sep w0 w L) (xs : List Int) (n : Nat) (hn : xs.length = n) (hl : n ≤ 9223372036854775807) : Sep w0 (w.alloc (.cells (nums .u8 xs).toArray 5)) (ownT (Kd.int .u8) 5 (.slice (some ⟨w.heap.size, 0, none⟩) n n) xs :: L) := by
  subst hn
  refine h.push_own (ok := fun _ => True) (Kd.R_of_own ?_ (fun _ _ => trivial)) (below_alloc (Below.refl _ _) _)
  have h2 := World.ownsRow_lit (base := w.heap.size) (e := 5) (size := 1) w (nums .u8 xs).toArray xs.length (Nat.le_refl _) (by simpa [maxLen] using hl) (by simp [nums_length])
  have h3 : (w.alloc (.cells (nums .u8 xs).toArray 5)).ownsRow w.heap.size 5 1 (.slice (some ⟨w.heap.size, 0, none⟩) xs.length xs.length) xs.length (nums .u8 xs) := by simpa using h2
  exact h3
end Go.Proofs.YtaflofcnjakaaaaDoor.M

namespace Go.Proofs.YtaflofcnjakaaaaDoor.M
open Go.RowKit Go.Maps Go.Proofs.YtaflofcnjakaaaaDoorW.PrintWords Go.Proofs.YtaflofcnjakaaaaDoorW.PrintLast Go.Proofs.YtaflofcnjakaaaaDoorW.PrintMore Go.Proofs.YtaflofcnjakaaaaDoor.Wr Go.Proofs.YtaflofcnjakaaaaDoor.Pl Go.Proofs.YtaflofcnjakaaaaDoor.P Go.Proofs.YtaflofcnjakaaaaDoor.A
set_option linter.unusedVariables false
set_option linter.unusedSimpArgs false
section
variable {w0 w : World} {L M : List Th} {A : Option Addr} {c : Nat} {b : List Int}
end
theorem cell_any0 {w : World} {g ty : Nat} {cs : Array Value} (h : w.heap[g]? = some (.cells cs ty (0, 0))) (k : Nat) (hk : k < cs.size) : ∃ v, w.cell? ⟨g, k, none⟩ = some v :=
  ⟨cs[k], cell_at (cs := cs.toList) (by rw [Array.toArray_toList]; exact h) k (by rw [Array.getElem?_toList, Array.getElem?_eq_getElem hk])⟩
end Go.Proofs.YtaflofcnjakaaaaDoor.M

namespace Go.Proofs.YtaflofcnjakaaaaDoor.M
open Go.RowKit Go.Maps Go.Proofs.YtaflofcnjakaaaaDoorW.PrintWords Go.Proofs.YtaflofcnjakaaaaDoorW.PrintLast Go.Proofs.YtaflofcnjakaaaaDoorW.PrintMore Go.Proofs.YtaflofcnjakaaaaDoor.Wr Go.Proofs.YtaflofcnjakaaaaDoor.Pl Go.Proofs.YtaflofcnjakaaaaDoor.P Go.Proofs.YtaflofcnjakaaaaDoor.A
set_option linter.unusedVariables false
set_option linter.unusedSimpArgs false
theorem put_step (b : List Int) (n j : Nat) (x : Int) (hl : b.length = n) (hj : j < n) : (nums .u8 (List.replicate j x ++ b.drop j)).toArray.setIfInBounds j (.int .u8 x) = (nums .u8 (List.replicate (j + 1) x ++ b.drop (j + 1))).toArray := by
  rw [List.setIfInBounds_toArray]
  congr 1
  unfold nums
  rw [← List.map_set, List.set_append_right _ _ (by rw [List.length_replicate]; omega), List.length_replicate, Nat.sub_self, List.drop_eq_getElem_cons (show j < b.length by omega), List.set_cons_zero, List.replicate_succ', List.append_assoc]
  rfl
theorem nums_rep (n : Nat) (x : Int) (j : Nat) (hj : j < n) : (nums .u8 (List.replicate n x)).toArray[j]? = some (.int .u8 x) := by
  unfold nums
  rw [List.getElem?_toArray, List.getElem?_map, List.getElem?_replicate_of_lt hj]
  rfl
theorem fam4 (f : Nat → Th) : fam 4 f = [f 0, f 1, f 2, f 3] := rfl
set_option maxHeartbeats 8000000 in
set_option maxRecDepth 100000 in
theorem lent_no {w0 : World} (hH : Wr.Half w0) (s t : SL) (hs : s.Ok) (ht : t.Ok) (hm : mayM s = false ∨ mayM t = false) : Calls Tryd.prog 10 #[.agg s.V.toArray, .agg t.V.toArray] w0 fun e w' => e = .returned (.bool true) ∧ Below w0.heap.size w0 w' := by
  have HS0 := Aside0.mk (((Sep.refl w0).push_alloc s.V.toArray 27).push_alloc t.V.toArray 27)
  have HST := Aside0.mk (fun W (M : List Th) (h : Sep w0 W M) => Sep.started h hH)
  have HMY := Aside0.mk (fun W => may30_calls s hs W)
  have HMT := Aside0.mk (fun W => may30_calls t ht W)
  have HSZ := Aside0.mk (SlAt.sa hs)
  have HSZt := Aside0.mk (SlAt.sa ht)
  have HLV := Aside0.mk (fun (s : SL) W (M : List Th) g (h : Sep w0 W (cellsT g s.V.toArray 27 :: M)) => (show ∀ j v, s.V.toArray.toList[j]? = some v → W.cell? ((⟨g, 0, none⟩ : Addr).add j) = some v from fun j v hv => seg_at h.cells.1 0 s.V (by rw [List.drop_zero]; exact List.take_of_length_le (Nat.le_refl _)) j v (by simpa using hv)))
  have HLs := Aside0.mk (HLV.out s)
  have HLt := Aside0.mk (HLV.out t)
  clear hH hs ht HLV
  generalize hmm : mayM s = m at hm HMY
  generalize hmt : mayM t = m2 at hm HMT
  clear hmm hmt
  generalize s.V.toArray = V at HS0 HMY HSZ HLs ⊢
  generalize t.V.toArray = V2 at HS0 HMT HSZt HLt ⊢
  go_enter Tryd.func10, Tryd.ntmps10
  go_upto_region 1 with (fail)
  have hsz : (w0.alloc (.cells V 27)).heap.size = w0.heap.size + 1 := by show (w0.heap.push _).size = _; simp
  rw [hsz] at HS0
  generalize (w0.alloc (.cells V 27)).alloc (.cells V2 27) = w1 at HS0 ⊢
  generalize hg3 : w0.heap.size + 1 = g3 at HS0 ⊢
  generalize w0.heap.size = g2 at HS0 ⊢
  clear hsz hg3
  cases m with
  | false =>
    go_wp2_with (first
      | ((with_reducible refine gate_load (ty := 27) rfl ?_); refine wpList_ldw ?_ 27 _ rfl ⟨g2, 0, none⟩ ?_ V _ (HLs.out _ _ _ HS0.out.up1) Tryd.underlying27 rfl HSZ.out ?_; exact rfl; exact rfl; skip)
      | (go_at_call 30; (with_reducible refine (HMY.out _).mono ?_); rintro e w2 ⟨rfl, hb⟩; have HS2 := Aside0.mk (HS0.out.step hb); clear hb)
      | (go_at_call 31; (with_reducible refine (HST.out _ _ HS2.out).mono ?_); rintro e w4 ⟨rfl, h4⟩; have HS4 := Aside0.mk h4; clear h4))
    go_ret
    exact ⟨rfl, HS4.out.below⟩
  | true =>
    obtain rfl : m2 = false := by simpa using hm
    go_wp2_with (first
      | ((with_reducible refine gate_load (ty := 27) rfl ?_); refine wpList_ldw ?_ 27 _ rfl ⟨g2, 0, none⟩ ?_ V _ (HLs.out _ _ _ HS0.out.up1) Tryd.underlying27 rfl HSZ.out ?_; exact rfl; exact rfl; skip)
      | (go_at_call 30; (with_reducible refine (HMY.out _).mono ?_); rintro e w2 ⟨rfl, hb⟩; have HS2 := Aside0.mk (HS0.out.step hb); clear hb HMY)
      | ((with_reducible refine gate_load (ty := 27) rfl ?_); refine wpList_ldw ?_ 27 _ rfl ⟨g3, 0, none⟩ ?_ V2 _ (HLt.out _ _ _ HS2.out) Tryd.underlying27 rfl HSZt.out ?_; exact rfl; exact rfl; skip)
      | (go_at_call 30; (with_reducible refine (HMT.out _).mono ?_); rintro e w3 ⟨rfl, hb⟩; have HS3 := Aside0.mk (HS2.out.step hb); clear hb)
      | (go_at_call 31; (with_reducible refine (HST.out _ _ HS3.out).mono ?_); rintro e w4 ⟨rfl, h4⟩; have HS4 := Aside0.mk h4; clear h4))
    go_ret
    exact ⟨rfl, HS4.out.below⟩
set_option maxHeartbeats 16000000 in
set_option maxRecDepth 100000 in
theorem lent_yes {w0 : World} (hH : Wr.Half w0) (s t : SL) (hs : s.Ok) (ht : t.Ok) (hm : mayM s = true) (hmt : mayM t = true) : Calls Tryd.prog 10 #[.agg s.V.toArray, .agg t.V.toArray] w0 fun e w' => e = .returned (.bool true) ∧ Below w0.heap.size w0 w' := by
  have HS0 := Aside0.mk (((Sep.refl w0).push_alloc s.V.toArray 27).push_alloc t.V.toArray 27)
  have HMY := Aside0.mk (fun W => (show Calls Tryd.prog 30 #[.agg s.V.toArray] W (fun e w' => e = .returned (.bool true) ∧ Below W.heap.size W w') from by have h := may30_calls s hs W; rw [hm] at h; exact h))
  have HMT := Aside0.mk (fun W => (show Calls Tryd.prog 30 #[.agg t.V.toArray] W (fun e w' => e = .returned (.bool true) ∧ Below W.heap.size W w') from by have h := may30_calls t ht W; rw [hmt] at h; exact h))
  have HEN := Aside0.mk (fun W (M : List Th) (h : Sep w0 W M) => Sep.encode h hH s hs hm)
  have HET := Aside0.mk (fun W (M : List Th) (h : Sep w0 W M) => Sep.encode h hH t ht hmt)
  have HDC := Aside0.mk (fun W (M : List Th) ge (h : Sep w0 W (cellsT ge (nums .u8 (encB s)).toArray 89 :: M)) => (show Calls Tryd.prog 32 #[.slice (some ⟨ge, 0, none⟩) 512 512] W (fun e w' => e = .returned (.tuple #[.agg s.V.toArray, .int .i64 0]) ∧ Sep w0 w' (cellsT ge (nums .u8 (encB s)).toArray 89 :: M)) from by
    have h3 := Sep.decode h hH (ReadsB.cells (encB_len hs)) (bytes_encB hs) (encB_len hs) (Nat.le_refl _)
    have h4 := decS_yes (dec_enc hs ((may_iff s).1 hm))
    rwa [h4.1, h4.2] at h3))
  have HSZ := Aside0.mk (SlAt.sa hs)
  have HSZt := Aside0.mk (SlAt.sa ht)
  have HEQ := Aside0.mk (fun W => eql_slot hs W)
  have HA := Aside0.mk (SL.V_all s)
  have hz := (zero_of_info (P := Tryd.prog) (t := 27) (v := .agg noSL.V.toArray) (n := 105) (by kernel_rfl)).1
  have HQ := Aside0.mk (show noSL.V.toArray.size = s.V.toArray.size from by simp only [List.size_toArray]; rw [SL.V_len noSL_ok, SL.V_len hs])
  have HLs := Aside0.mk (fun W (M : List Th) g (h : Sep w0 W (cellsT g s.V.toArray 27 :: M)) => (show ∀ j v, s.V.toArray.toList[j]? = some v → W.cell? ((⟨g, 0, none⟩ : Addr).add j) = some v from fun j v hv => seg_at h.cells.1 0 s.V (by rw [List.drop_zero]; exact List.take_of_length_le (Nat.le_refl _)) j v (by simpa using hv)))
  have HLt := Aside0.mk (fun W (M : List Th) g (h : Sep w0 W (cellsT g t.V.toArray 27 :: M)) => (show ∀ j v, t.V.toArray.toList[j]? = some v → W.cell? ((⟨g, 0, none⟩ : Addr).add j) = some v from fun j v hv => seg_at h.cells.1 0 t.V (by rw [List.drop_zero]; exact List.take_of_length_le (Nat.le_refl _)) j v (by simpa using hv)))
  have HEL := Aside0.mk (And.intro (encB_len hs) (encB_len ht))
  clear hH hs ht hm hmt
  generalize s.V.toArray = V at HS0 HMY HEN HDC HSZ HEQ HA HQ HLs ⊢
  generalize t.V.toArray = V2 at HS0 HMT HET HSZt HLt ⊢
  generalize encB s = es at HEN HDC HEL
  generalize encB t = eo at HET HEL
  generalize noSL.V.toArray = Z at hz HQ
  go_enter Tryd.func10, Tryd.ntmps10
  go_upto_region 1 with (fail)
  have hsz : (w0.alloc (.cells V 27)).heap.size = w0.heap.size + 1 := by show (w0.heap.push _).size = _; simp
  rw [hsz] at HS0
  generalize (w0.alloc (.cells V 27)).alloc (.cells V2 27) = w1 at HS0 ⊢
  generalize hg3 : w0.heap.size + 1 = g3 at HS0 ⊢
  generalize w0.heap.size = g2 at HS0 ⊢
  clear hsz hg3
  go_upto_region 3 with (first
    | ((with_reducible refine gate_load (ty := 27) rfl ?_); refine wpList_ldw ?_ 27 _ rfl ⟨g2, 0, none⟩ ?_ V _ (HLs.out _ _ _ HS0.out.up1) Tryd.underlying27 rfl HSZ.out ?_; exact rfl; exact rfl; skip)
    | (go_at_call 30; (with_reducible refine (HMY.out _).mono ?_); rintro e w2 ⟨rfl, hb⟩; have HS2 := Aside0.mk (HS0.out.step hb); clear hb HMY)
    | ((with_reducible refine gate_load (ty := 27) rfl ?_); refine wpList_ldw ?_ 27 _ rfl ⟨g3, 0, none⟩ ?_ V2 _ (HLt.out _ _ _ HS2.out) Tryd.underlying27 rfl HSZt.out ?_; exact rfl; exact rfl; skip)
    | (go_at_call 30; (with_reducible refine (HMT.out _).mono ?_); rintro e w3 ⟨rfl, hb⟩; have HS3 := Aside0.mk (HS2.out.step hb); clear hb))
  clear HS0 HS2 HMT
  go_upto_region 4 with (first
    | ((with_reducible refine gate_load (ty := 27) rfl ?_); refine wpList_ldw ?_ 27 _ rfl ⟨g2, 0, none⟩ ?_ V _ (HLs.out _ _ _ HS3.out.up1) Tryd.underlying27 rfl HSZ.out ?_; exact rfl; exact rfl; skip)
    | (go_at_call 12; (with_reducible refine (HEN.out _ _ HS3.out).mono ?_); rintro e w4 ⟨ga, rfl, h⟩; have HS4 := Aside0.mk h; clear h))
  go_upto_region 5 with (first
    | ((with_reducible refine gate_load (ty := 27) rfl ?_); refine wpList_ldw ?_ 27 _ rfl ⟨g2, 0, none⟩ ?_ V _ (HLs.out _ _ _ HS4.out.up2) Tryd.underlying27 rfl HSZ.out ?_; exact rfl; exact rfl; skip)
    | (go_at_call 12; (with_reducible refine (HEN.out _ _ HS4.out).mono ?_); rintro e w5 ⟨gb, rfl, h⟩; have HS5 := Aside0.mk h; clear h))
  go_upto_region 6 with (first
    | ((with_reducible refine gate_load (ty := 27) rfl ?_); refine wpList_ldw ?_ 27 _ rfl ⟨g3, 0, none⟩ ?_ V2 _ (HLt.out _ _ _ HS5.out.up2) Tryd.underlying27 rfl HSZt.out ?_; exact rfl; exact rfl; skip)
    | (go_at_call 12; (with_reducible refine (HET.out _ _ HS5.out).mono ?_); rintro e w6 ⟨gc, rfl, h⟩; have HS6 := Aside0.mk h; clear h))
  go_upto_region 7 with (first
    | ((with_reducible refine gate_load (ty := 27) rfl ?_); refine wpList_ldw ?_ 27 _ rfl ⟨g2, 0, none⟩ ?_ V _ (HLs.out _ _ _ HS6.out.up4) Tryd.underlying27 rfl HSZ.out ?_; exact rfl; exact rfl; skip)
    | (go_at_call 12; (with_reducible refine (HEN.out _ _ HS6.out).mono ?_); rintro e w7 ⟨gd, rfl, h⟩; have HS7 := Aside0.mk h; clear h))
  clear HS3 HS4 HS5 HS6 HEN HET
  go_upto_region 9 with (fail)
  go_upto_region 10 with (first
    | (go_at_call 32; (with_reducible refine (HDC.out _ _ _ HS7.out.up2).mono ?_); rintro e w8 ⟨rfl, h⟩; have HS8 := Aside0.mk h; clear h HS7)
    | ((with_reducible refine gate_store (ty := 27) rfl ?_); refine Sep.store_own rfl 27 _ _ rfl rfl rfl (HS8.out.push_alloc Z 27) HSZ.out HQ.out HA.out ?_; intro w9 h9; have HS9 := Aside0.mk h9; clear h9))
  generalize w8.heap.size = g13 at HS9 ⊢
  clear HS8 HDC
  go_upto_region 11 with (fail)
  have HSl := Aside0.mk (HS9.out.push_alloc #[.slice (some ⟨ga, 0, none⟩) 512 512, .slice (some ⟨gb, 0, none⟩) 512 512, .slice (some ⟨gc, 0, none⟩) 512 512, .slice (some ⟨gd, 0, none⟩) 512 512] 28)
  clear HS9
  generalize w9.alloc (.cells #[.slice (some ⟨ga, 0, none⟩) 512 512, .slice (some ⟨gb, 0, none⟩) 512 512, .slice (some ⟨gc, 0, none⟩) 512 512, .slice (some ⟨gd, 0, none⟩) 512 512] 28) = w10 at HSl ⊢
  generalize w9.heap.size = gl at HSl ⊢
  obtain ⟨bk, hk0, hk1, hk2, hk3⟩ : ∃ bk : Nat → Nat, bk 0 = ga ∧ bk 1 = gb ∧ bk 2 = gc ∧ bk 3 = gd := ⟨fun j => [ga, gb, gc, gd].getD j 0, rfl, rfl, rfl, rfl⟩
  subst hk0 hk1 hk2 hk3
  obtain ⟨b0, hb0, hb1, hb2, hb3, hbl⟩ : ∃ b0 : Nat → List Int, b0 0 = es ∧ b0 1 = es ∧ b0 2 = eo ∧ b0 3 = es ∧ ∀ j, (b0 j).length = 512 := ⟨fun j => if j = 2 then eo else es, rfl, rfl, rfl, rfl, fun j => by dsimp only; split; exact HEL.out.2; exact HEL.out.1⟩
  have HH := Aside0.mk (fun (k : Nat) (hk : k < 4) => (show (#[Value.slice (some ⟨bk 0, 0, none⟩) 512 512, .slice (some ⟨bk 1, 0, none⟩) 512 512, .slice (some ⟨bk 2, 0, none⟩) 512 512, .slice (some ⟨bk 3, 0, none⟩) 512 512] : Array Value)[k]? = some (.slice (some ⟨bk k, 0, none⟩) 512 512) from by
    rcases (show k = 0 ∨ k = 1 ∨ k = 2 ∨ k = 3 by omega) with rfl | rfl | rfl | rfl <;> rfl))
  have HSm := Aside0.mk (show Sep w0 w10 ([cellsT gl #[.slice (some ⟨bk 0, 0, none⟩) 512 512, .slice (some ⟨bk 1, 0, none⟩) 512 512, .slice (some ⟨bk 2, 0, none⟩) 512 512, .slice (some ⟨bk 3, 0, none⟩) 512 512] 28, cellsT g13 V 27, cellsT g2 V 27] ++ (fam 4 (fun j => cellsT (bk j) (nums .u8 (if j < 0 then List.replicate 512 ((j : Int) + 1) else b0 j)).toArray 89) ++ [])) from by
    rw [fam4]
    simp only [Nat.not_lt_zero, if_false]
    rw [hb0, hb1, hb2, hb3]
    exact HSl.out.sel 8 [0, 1, 7, 5, 2, 4, 3] _ rfl (by decide) rfl)
  have HBL := Aside0.mk hbl
  clear HSl hb0 hb1 hb2 hb3 hbl HEL HLt HSZt
  generalize hHH : (#[Value.slice (some ⟨bk 0, 0, none⟩) 512 512, .slice (some ⟨bk 1, 0, none⟩) 512 512, .slice (some ⟨bk 2, 0, none⟩) 512 512, .slice (some ⟨bk 3, 0, none⟩) 512 512] : Array Value) = H at HH HSm
  clear hHH
  have HP := Aside0.mk (fun (j : Nat) (x : Int) (k : Nat) (hj : j < 512) => put_step (b0 k) 512 j x (HBL.out k) hj)
  go_upto_region 12 with (fail)
  go_loopg [16] 4 (fun kq v16 wr => ∃ k : Nat, v16 = .int .i64 k ∧ Aside0 (k + kq = 4) ∧ Aside0 (Sep w0 wr ([cellsT gl H 28, cellsT g13 V 27, cellsT g2 V 27] ++ (fam 4 (fun j => cellsT (bk j) (nums .u8 (if j < k then List.replicate 512 ((j : Int) + 1) else b0 j)).toArray 89) ++ []))))
  case atStart => exact ⟨0, rfl, ⟨rfl⟩, HSm⟩
  case round =>
    clear HSm
    obtain ⟨k, rfl, HJ, hS⟩ := hrel
    by_cases hk : k < 4
    · have hk1 : (k : Int) < 4 := by omega
      have t0 : decide ((k : Int) < 4) = true := decide_eq_true hk1
      have hk2 : ((k : Int) + 1) % 256 = (k : Int) + 1 := by omega
      have hk3 : IntKind.u8.wrap ((k : Int) + 1) = (k : Int) + 1 := hk2
      have HK := Aside0.mk hk
      have hS2 := Aside0.mk (show Sep w0 wr (cellsT (bk k) (nums .u8 (List.replicate 0 ((k : Int) + 1) ++ (b0 k).drop 0)).toArray 89 :: ([cellsT gl H 28, cellsT g13 V 27, cellsT g2 V 27] ++ (famX 4 k (fun j => cellsT (bk j) (nums .u8 (if j < k then List.replicate 512 ((j : Int) + 1) else b0 j)).toArray 89) ++ []))) from by
        have h := Sep.famAt (A := [cellsT gl H 28, cellsT g13 V 27, cellsT g2 V 27]) hS.out k hk
        rwa [if_neg (Nat.lt_irrefl k)] at h)
      clear hS
      go_upto_region 15 with (fail)
      go_loopg [17] 512 (fun kq2 v17 wr => ∃ j : Nat, v17 = .int .i64 j ∧ Aside0 (j + kq2 = 512) ∧ Aside0 (Sep w0 wr (cellsT (bk k) (nums .u8 (List.replicate j ((k : Int) + 1) ++ (b0 k).drop j)).toArray 89 :: ([cellsT gl H 28, cellsT g13 V 27, cellsT g2 V 27] ++ (famX 4 k (fun j => cellsT (bk j) (nums .u8 (if j < k then List.replicate 512 ((j : Int) + 1) else b0 j)).toArray 89) ++ [])))))
      case atStart => exact ⟨0, rfl, ⟨rfl⟩, hS2⟩
      case round =>
        clear hS2
        obtain ⟨j, rfl, HJ2, hS⟩ := hrel
        by_cases hj : j < 512
        · have hj1 : (j : Int) < 512 := by omega
          have t1 : decide ((j : Int) < 512) = true := decide_eq_true hj1
          have HI := Aside0.mk hj
          have hS' := Aside0.mk (show Sep w0 _ (cellsT (bk k) (nums .u8 (List.replicate j ((k : Int) + 1) ++ (b0 k).drop j)).toArray 89 :: cellsT gl H 28 :: cellsT g13 V 27 :: cellsT g2 V 27 :: (famX 4 k (fun j => cellsT (bk j) (nums .u8 (if j < k then List.replicate 512 ((j : Int) + 1) else b0 j)).toArray 89) ++ [])) from hS.out)
          have x0 := (blk_cell hS'.out.up1.cells.1 k).trans (HH.out k HK.out)
          have x1 := blk_frozen hS'.out.cells.1 j
          obtain ⟨u, x2⟩ := cell_any0 hS'.out.cells.1 j (by simp [nums_length, HBL.out k]; omega)
          go_wp2
          go_roundg (512 - j - 1)
          case measure => have := HJ2.out; have := HI.out; omega
          case rel => exact ⟨j + 1, rfl, ⟨by have := HJ2.out; have := HI.out; omega⟩, ⟨by have h := hS'.out.cset j (.int .u8 ((k : Int) + 1)); rwa [HP.out j _ k HI.out] at h⟩⟩
        · have hj3 : j = 512 := by have := HJ2.out; omega
          subst hj3
          go_wp2
          go_roundg (4 - k - 1)
          case measure => have := HJ.out; have := HK.out; omega
          case rel =>
            refine ⟨k + 1, rfl, ⟨by have := HJ.out; have := HK.out; omega⟩, ⟨?_⟩⟩
            refine Sep.famBack (A := [cellsT gl H 28, cellsT g13 V 27, cellsT g2 V 27]) (f := (fun j => cellsT (bk j) (nums .u8 (if j < k then List.replicate 512 ((j : Int) + 1) else b0 j)).toArray 89)) k ?_ HK.out (fun j _ hne => ?_)
            · have h := hS.out
              rw [List.drop_eq_nil_of_le (by rw [HBL.out k]; exact Nat.le_refl _), List.append_nil] at h
              (try dsimp only)
              rw [if_pos (Nat.lt_succ_self k)]
              exact h
            · (try dsimp only)
              by_cases hjk : j < k
              · rw [if_pos hjk, if_pos (by omega)]
              · rw [if_neg hjk, if_neg (by omega)]
    · have hk3 : k = 4 := by have := HJ.out; omega
      subst hk3
      have HS4 := Aside0.mk (show Sep w0 wr (ownT kH 28 (.slice none 0 0) ((List.range 0).map (fun _ : Nat => ((none, 0, 0) : Hd))) :: ([cellsT gl H 28, cellsT g13 V 27, cellsT g2 V 27] ++ (fam 4 (fun j => cellsT (bk j) (nums .u8 (List.replicate 512 ((j : Int) + 1))).toArray 89) ++ (fam 0 (fun j => ownT (Kd.int .u8) 5 (hdV (none, 0, 0)) (List.replicate 512 ((j : Int) + 1) ++ List.replicate 600 ((j : Int) + 11))) ++ [])))) from by
        have h := hS.out
        rw [fam_congr 4 (g := (fun j => cellsT (bk j) (nums .u8 (List.replicate 512 ((j : Int) + 1))).toArray 89)) (fun j hj => by (try dsimp only); rw [if_pos hj])] at h
        exact h.push_nil kH 28)
      clear hS
      have HCk := Aside0.mk (fun W (X B : List Th) (k : Nat) (hk : k < 4) (h : Sep w0 W (X ++ (fam 4 (fun j => cellsT (bk j) (nums .u8 (List.replicate 512 ((j : Int) + 1))).toArray 89) ++ B))) => (show (Kd.int .u8).C W (some ⟨bk k, 0, none⟩) 512 (List.replicate 512 ((k : Int) + 1)) from
        C_segn (Sep.famAt h k hk).cells.1 0 (List.replicate 512 ((k : Int) + 1)) 512 (List.length_replicate ..) (by rw [List.drop_zero]; exact List.take_of_length_le (by rw [nums_length, List.length_replicate]; exact Nat.le_refl _)) (by decide)))
      go_upto_region 20 with (fail)
      go_loopg [18, 19] 4 (fun kq v18 v19 wr => ∃ (k : Nat) (m : Nat → Hd) (vl : Value), vl = v18 ∧ v19 = .int .i64 k ∧ Aside0 (k + kq = 4) ∧ Aside0 (Sep w0 wr (ownT kH 28 vl ((List.range k).map m) :: ([cellsT gl H 28, cellsT g13 V 27, cellsT g2 V 27] ++ (fam 4 (fun j => cellsT (bk j) (nums .u8 (List.replicate 512 ((j : Int) + 1))).toArray 89) ++ (fam k (fun j => ownT (Kd.int .u8) 5 (hdV (m j)) (List.replicate 512 ((j : Int) + 1) ++ List.replicate 600 ((j : Int) + 11))) ++ []))))))
      case atStart => exact ⟨0, fun _ => (none, 0, 0), _, rfl, rfl, ⟨rfl⟩, HS4⟩
      case round =>
        clear HS4
        obtain ⟨k, m, vl, hv, rfl, HJ, hS⟩ := hrel
        subst hv
        by_cases hk : k < 4
        · have hk1 : (k : Int) < 4 := by omega
          have t0 : decide ((k : Int) < 4) = true := decide_eq_true hk1
          have hk2 : ((k : Int) + 11) % 256 = (k : Int) + 11 := by omega
          have hk3 : IntKind.u8.wrap ((k : Int) + 11) = (k : Int) + 11 := hk2
          have HK := Aside0.mk hk
          have x0 := (blk_cell (show Sep w0 wr (ownT kH 28 vl ((List.range k).map m) :: cellsT gl H 28 :: (cellsT g13 V 27 :: cellsT g2 V 27 :: (fam 4 (fun j => cellsT (bk j) (nums .u8 (List.replicate 512 ((j : Int) + 1))).toArray 89) ++ (fam k (fun j => ownT (Kd.int .u8) 5 (hdV (m j)) (List.replicate 512 ((j : Int) + 1) ++ List.replicate 600 ((j : Int) + 11))) ++ [])))) from hS.out).up1.cells.1 k).trans (HH.out k hk)
          go_upto_region 24 with (fail)
          clear x0
          go_loopg [20, 21] 600 (fun kq2 v20 v21 wr => ∃ (j : Nat) (vm : Value), vm = v20 ∧ v21 = .int .i64 j ∧ Aside0 (j + kq2 = 600) ∧ ((j = 0 ∧ vm = .slice (some ⟨bk k, 0, none⟩) 512 512 ∧ Aside0 (Sep w0 wr (ownT kH 28 vl ((List.range k).map m) :: ([cellsT gl H 28, cellsT g13 V 27, cellsT g2 V 27] ++ (fam 4 (fun j => cellsT (bk j) (nums .u8 (List.replicate 512 ((j : Int) + 1))).toArray 89) ++ (fam k (fun j => ownT (Kd.int .u8) 5 (hdV (m j)) (List.replicate 512 ((j : Int) + 1) ++ List.replicate 600 ((j : Int) + 11))) ++ [])))))) ∨ (0 < j ∧ Aside0 (Sep w0 wr (ownT (Kd.int .u8) 5 vm (List.replicate 512 ((k : Int) + 1) ++ List.replicate j ((k : Int) + 11)) :: ownT kH 28 vl ((List.range k).map m) :: ([cellsT gl H 28, cellsT g13 V 27, cellsT g2 V 27] ++ (fam 4 (fun j => cellsT (bk j) (nums .u8 (List.replicate 512 ((j : Int) + 1))).toArray 89) ++ (fam k (fun j => ownT (Kd.int .u8) 5 (hdV (m j)) (List.replicate 512 ((j : Int) + 1) ++ List.replicate 600 ((j : Int) + 11))) ++ []))))))))
          case atStart => exact ⟨0, _, rfl, rfl, ⟨rfl⟩, .inl ⟨rfl, rfl, hS⟩⟩
          case round =>
            clear hS
            obtain ⟨j, vm, hv, rfl, HJ2, hS⟩ := hrel
            subst hv
            by_cases hj : j < 600
            · have hj1 : (j : Int) < 600 := by omega
              have t1 : decide ((j : Int) < 600) = true := decide_eq_true hj1
              have HI := Aside0.mk hj
              rcases hS with ⟨hj0, hvm, hS⟩ | ⟨hj0, hS⟩
              · subst hj0 hvm
                have hS' := Aside0.mk (hS.out.push_lit [(k : Int) + 11] 1 rfl (by decide))
                go_wp2_with ((with_reducible refine gate_builtin (b := .append) (xs := #[.tmp 127, .tmp 131]) rfl ?_); refine Sep.app_grow rfl _ _ rfl (ad0 := ⟨bk k, 0, none⟩) (n := 512) (xs := List.replicate 512 ((k : Int) + 1)) (ys := [(k : Int) + 11]) rfl rfl ?hC hS'.out (Nat.succ_pos 0) (show 512 + 1 ≤ 140737488355328 by decide) ?_; (case hC => exact HCk.out _ [ownT (Kd.int .u8) 5 _ [(k : Int) + 11], ownT kH 28 vl ((List.range k).map m), cellsT gl H 28, cellsT g13 V 27, cellsT g2 V 27] _ k HK.out hS'.out); intro v1 w1 h1; have HS1 := Aside0.mk h1.up1.drop; clear h1)
                go_roundg (600 - 0 - 1)
                case measure => have := HJ2.out; omega
                case rel => exact ⟨1, _, rfl, rfl, ⟨by have := HJ2.out; omega⟩, .inr ⟨by decide, HS1⟩⟩
              · have HJ0 := Aside0.mk hj0
                go_wp2_with ((with_reducible refine gate_builtin (b := .append) (xs := #[.tmp 127, .tmp 131]) rfl ?_); refine Sep.app_one rfl _ _ rfl ((k : Int) + 11) rfl rfl hS.out ?aL ?_; (case aL => have := HI.out; rw [List.length_append, List.length_replicate, List.length_replicate]; omega); intro v1 w1 h1; have HS1 := Aside0.mk h1; clear h1)
                go_roundg (600 - j - 1)
                case measure => have := HJ2.out; have := HI.out; omega
                case rel => exact ⟨j + 1, _, rfl, rfl, ⟨by have := HJ2.out; have := HI.out; omega⟩, .inr ⟨Nat.succ_pos j, ⟨by have h := HS1.out; rwa [List.append_assoc, ← List.replicate_succ'] at h⟩⟩⟩
            · have hj3 : j = 600 := by have := HJ2.out; omega
              subst hj3
              have hSo := Aside0.mk (show Sep w0 wr (ownT (Kd.int .u8) 5 vm (List.replicate 512 ((k : Int) + 1) ++ List.replicate 600 ((k : Int) + 11)) :: ownT kH 28 vl ((List.range k).map m) :: ([cellsT gl H 28, cellsT g13 V 27, cellsT g2 V 27] ++ (fam 4 (fun j => cellsT (bk j) (nums .u8 (List.replicate 512 ((j : Int) + 1))).toArray 89) ++ (fam k (fun j => ownT (Kd.int .u8) 5 (hdV (m j)) (List.replicate 512 ((j : Int) + 1) ++ List.replicate 600 ((j : Int) + 11))) ++ [])))) from by
                rcases hS with ⟨hj0, _, _⟩ | ⟨_, hS⟩
                · cases hj0
                · exact hS.out)
              clear hS
              obtain ⟨Am, cm, hvm⟩ := hSo.out.own_slice
              rw [List.length_append, List.length_replicate, List.length_replicate] at hvm
              subst hvm
              go_wp2_with ((with_reducible refine gate_builtin (b := .append) (xs := #[.tmp 133, .tmp 135]) rfl ?_); refine Sep.app_hd rfl _ _ rfl ((Am, 1112, cm) : Hd) rfl rfl hSo.out.up1 ?aL ?_; (case aL => have := HK.out; rw [List.length_map, List.length_range]; omega); intro v1 w1 h1; have HS1 := Aside0.mk h1; clear h1)
              go_roundg (4 - k - 1)
              case measure => have := HJ.out; have := HK.out; omega
              case rel =>
                refine ⟨k + 1, fun j => if j = k then (Am, 1112, cm) else m j, _, rfl, rfl, ⟨by have := HJ.out; have := HK.out; omega⟩, ⟨?_⟩⟩
                have e1 : (List.range (k + 1)).map (fun j => if j = k then ((Am, 1112, cm) : Hd) else m j) = (List.range k).map m ++ [(Am, 1112, cm)] := by
                  rw [List.range_succ, List.map_append]
                  congr 1
                  · refine List.map_congr_left (fun j hj => ?_)
                    rw [if_neg (by have := List.mem_range.1 hj; omega)]
                  · simp
                rw [e1]
                have h2 := HS1.out.up1
                rw [fam_congr k (g := (fun j => ownT (Kd.int .u8) 5 (hdV (if j = k then ((Am, 1112, cm) : Hd) else m j)) (List.replicate 512 ((j : Int) + 1) ++ List.replicate 600 ((j : Int) + 11)))) (fun j hj => by rw [if_neg (show ¬ j = k by omega)])] at h2
                refine Sep.famPush (A := ownT kH 28 v1 ((List.range k).map m ++ [(Am, 1112, cm)]) :: ([cellsT gl H 28, cellsT g13 V 27, cellsT g2 V 27] ++ fam 4 (fun j => cellsT (bk j) (nums .u8 (List.replicate 512 ((j : Int) + 1))).toArray 89))) ?_
                (try dsimp only)
                rw [if_pos rfl]
                exact h2
        · have hk3 : k = 4 := by have := HJ.out; omega
          subst hk3
          obtain ⟨Al, cl, hvl⟩ := hS.out.own_slice
          rw [List.length_map, List.length_range] at hvl
          subst hvl
          have HS5 := Aside0.mk (show Sep w0 wr (ownT kH 28 (.slice Al 4 cl) ((List.range 4).map m) :: cellsT gl H 28 :: cellsT g13 V 27 :: cellsT g2 V 27 :: (fam 4 (fun j => cellsT (bk j) (nums .u8 (List.replicate 512 ((j : Int) + 1))).toArray 89) ++ (fam 4 (fun j => ownT (Kd.int .u8) 5 (hdV (m j)) (List.replicate 512 ((j : Int) + 1) ++ List.replicate 600 ((j : Int) + 11))) ++ []))) from hS.out)
          clear hS HCk
          have HLc := Aside0.mk (fun W (k : Nat) (hk : k < 4) (h : Sep w0 W (ownT kH 28 (.slice Al 4 cl) ((List.range 4).map m) :: cellsT gl H 28 :: cellsT g13 V 27 :: cellsT g2 V 27 :: (fam 4 (fun j => cellsT (bk j) (nums .u8 (List.replicate 512 ((j : Int) + 1))).toArray 89) ++ (fam 4 (fun j => ownT (Kd.int .u8) 5 (hdV (m j)) (List.replicate 512 ((j : Int) + 1) ++ List.replicate 600 ((j : Int) + 11))) ++ [])))) => (show W.cell? ⟨gl, k, none⟩ = some (.slice (some ⟨bk k, 0, none⟩) 512 512) from (blk_cell h.up1.cells.1 k).trans (HH.out k hk)))
          have HLb := Aside0.mk (fun W (k j : Nat) (hk : k < 4) (hj : j < 512) (h : Sep w0 W (ownT kH 28 (.slice Al 4 cl) ((List.range 4).map m) :: cellsT gl H 28 :: cellsT g13 V 27 :: cellsT g2 V 27 :: (fam 4 (fun j => cellsT (bk j) (nums .u8 (List.replicate 512 ((j : Int) + 1))).toArray 89) ++ (fam 4 (fun j => ownT (Kd.int .u8) 5 (hdV (m j)) (List.replicate 512 ((j : Int) + 1) ++ List.replicate 600 ((j : Int) + 11))) ++ [])))) => (show W.cell? ⟨bk k, j, none⟩ = some (.int .u8 ((k : Int) + 1)) from by
            have h2 := Sep.famAt (A := [ownT kH 28 (.slice Al 4 cl) ((List.range 4).map m), cellsT gl H 28, cellsT g13 V 27, cellsT g2 V 27]) (n := 4) (f := (fun j => cellsT (bk j) (nums .u8 (List.replicate 512 ((j : Int) + 1))).toArray 89)) (B := fam 4 (fun j => ownT (Kd.int .u8) 5 (hdV (m j)) (List.replicate 512 ((j : Int) + 1) ++ List.replicate 600 ((j : Int) + 11))) ++ []) h k hk
            rw [blk_cell h2.cells.1 j]
            exact nums_rep 512 _ j hj))
          have HLh := Aside0.mk (fun W (k : Nat) (hk : k < 4) (h : Sep w0 W (ownT kH 28 (.slice Al 4 cl) ((List.range 4).map m) :: cellsT gl H 28 :: cellsT g13 V 27 :: cellsT g2 V 27 :: (fam 4 (fun j => cellsT (bk j) (nums .u8 (List.replicate 512 ((j : Int) + 1))).toArray 89) ++ (fam 4 (fun j => ownT (Kd.int .u8) 5 (hdV (m j)) (List.replicate 512 ((j : Int) + 1) ++ List.replicate 600 ((j : Int) + 11))) ++ [])))) => (show ∃ ad, Al = some ad ∧ W.cell? (ad.add k) = some (hdV (m k)) from by
            obtain ⟨ad, h1, h2⟩ := h.hd_at (by simp) k hk
            refine ⟨ad, h1, ?_⟩
            rw [h2, List.getD_eq_getElem?_getD, List.getElem?_map, List.getElem?_range hk]
            rfl))
          have HLm := Aside0.mk (fun W (k : Nat) (hk : k < 4) (h : Sep w0 W (ownT kH 28 (.slice Al 4 cl) ((List.range 4).map m) :: cellsT gl H 28 :: cellsT g13 V 27 :: cellsT g2 V 27 :: (fam 4 (fun j => cellsT (bk j) (nums .u8 (List.replicate 512 ((j : Int) + 1))).toArray 89) ++ (fam 4 (fun j => ownT (Kd.int .u8) 5 (hdV (m j)) (List.replicate 512 ((j : Int) + 1) ++ List.replicate 600 ((j : Int) + 11))) ++ [])))) => (show ∃ Am cm, m k = (Am, 1112, cm) ∧ ∀ i, i < 600 → ∃ ad, Am = some ad ∧ W.cell? (ad.add (512 + i)) = some (.int .u8 ((k : Int) + 11)) from by
            have h2 := Sep.famAt (A := [ownT kH 28 (.slice Al 4 cl) ((List.range 4).map m), cellsT gl H 28, cellsT g13 V 27, cellsT g2 V 27] ++ fam 4 (fun j => cellsT (bk j) (nums .u8 (List.replicate 512 ((j : Int) + 1))).toArray 89)) (n := 4) (f := (fun j => ownT (Kd.int .u8) 5 (hdV (m j)) (List.replicate 512 ((j : Int) + 1) ++ List.replicate 600 ((j : Int) + 11)))) (B := []) h k hk
            (try dsimp only at h2)
            obtain ⟨Am, cm, e⟩ := h2.own_slice
            rw [List.length_append, List.length_replicate, List.length_replicate] at e
            unfold hdV at e
            simp only [Value.slice.injEq] at e
            have hmk : m k = (Am, 1112, cm) := by
              rcases hmk : m k with ⟨x1, x2, x3⟩
              rw [hmk] at e
              obtain ⟨e1, e2, e3⟩ := e
              subst e1 e2 e3
              rfl
            refine ⟨Am, cm, hmk, fun i hi => ?_⟩
            rw [hmk] at h2
            obtain ⟨ad, h3, h4⟩ := Sep.byte_at (show Sep w0 W (ownT (Kd.int .u8) 5 (.slice Am 1112 cm) _ :: _) from h2) (by rw [List.length_append, List.length_replicate, List.length_replicate]) (512 + i) (by omega)
            refine ⟨ad, h3, ?_⟩
            rw [h4, List.getD_eq_getElem?_getD, List.getElem?_append_right (by rw [List.length_replicate]; omega), List.length_replicate, Nat.add_sub_cancel_left, List.getElem?_replicate_of_lt hi]
            rfl))
          go_upto_region 29 with (fail)
          go_loopg [22] 4 (fun kq v22 wr => ∃ k : Nat, v22 = .int .i64 k ∧ Aside0 (k + kq = 4) ∧ Aside0 (Sep w0 wr (ownT kH 28 (.slice Al 4 cl) ((List.range 4).map m) :: cellsT gl H 28 :: cellsT g13 V 27 :: cellsT g2 V 27 :: (fam 4 (fun j => cellsT (bk j) (nums .u8 (List.replicate 512 ((j : Int) + 1))).toArray 89) ++ (fam 4 (fun j => ownT (Kd.int .u8) 5 (hdV (m j)) (List.replicate 512 ((j : Int) + 1) ++ List.replicate 600 ((j : Int) + 11))) ++ [])))))
          case atStart => exact ⟨0, rfl, ⟨rfl⟩, HS5⟩
          case round =>
            clear HS5
            obtain ⟨k, rfl, HJ, hS⟩ := hrel
            by_cases hk : k < 4
            · have hk1 : (k : Int) < 4 := by omega
              have t0 : decide ((k : Int) < 4) = true := decide_eq_true hk1
              have hk2 : ((k : Int) + 11) % 256 = (k : Int) + 11 := by omega
              have hk3 : IntKind.u8.wrap ((k : Int) + 11) = (k : Int) + 11 := hk2
              have hk4 : ((k : Int) + 1) % 256 = (k : Int) + 1 := by omega
              have hk5 : IntKind.u8.wrap ((k : Int) + 1) = (k : Int) + 1 := hk4
              have HK := Aside0.mk hk
              go_upto_region 32 with (fail)
              go_loopg [23] 512 (fun kq2 v23 wr => ∃ j : Nat, v23 = .int .i64 j ∧ Aside0 (j + kq2 = 512) ∧ Aside0 (Sep w0 wr (ownT kH 28 (.slice Al 4 cl) ((List.range 4).map m) :: cellsT gl H 28 :: cellsT g13 V 27 :: cellsT g2 V 27 :: (fam 4 (fun j => cellsT (bk j) (nums .u8 (List.replicate 512 ((j : Int) + 1))).toArray 89) ++ (fam 4 (fun j => ownT (Kd.int .u8) 5 (hdV (m j)) (List.replicate 512 ((j : Int) + 1) ++ List.replicate 600 ((j : Int) + 11))) ++ [])))))
              case atStart => exact ⟨0, rfl, ⟨rfl⟩, hS⟩
              case round =>
                clear hS
                obtain ⟨j, rfl, HJ2, hS⟩ := hrel
                by_cases hj : j < 512
                · have hj1 : (j : Int) < 512 := by omega
                  have t1 : decide ((j : Int) < 512) = true := decide_eq_true hj1
                  have HI := Aside0.mk hj
                  have x0 := HLc.out _ k HK.out hS.out
                  have x1 := HLb.out _ k j HK.out HI.out hS.out
                  go_wp2
                  go_roundg (512 - j - 1)
                  case measure => have := HJ2.out; have := HI.out; omega
                  case rel => exact ⟨j + 1, rfl, ⟨by have := HJ2.out; have := HI.out; omega⟩, hS⟩
                · skip
                  go_upto_region 37 with (fail)
                  go_loopg [24] 600 (fun kq3 v24 wr => ∃ i : Nat, v24 = .int .i64 i ∧ Aside0 (i + kq3 = 600) ∧ Aside0 (Sep w0 wr (ownT kH 28 (.slice Al 4 cl) ((List.range 4).map m) :: cellsT gl H 28 :: cellsT g13 V 27 :: cellsT g2 V 27 :: (fam 4 (fun j => cellsT (bk j) (nums .u8 (List.replicate 512 ((j : Int) + 1))).toArray 89) ++ (fam 4 (fun j => ownT (Kd.int .u8) 5 (hdV (m j)) (List.replicate 512 ((j : Int) + 1) ++ List.replicate 600 ((j : Int) + 11))) ++ [])))))
                  case atStart => exact ⟨0, rfl, ⟨rfl⟩, hS⟩
                  case round =>
                    clear hS
                    obtain ⟨i, rfl, HJ3, hS⟩ := hrel
                    by_cases hi : i < 600
                    · have hi1 : (i : Int) < 600 := by omega
                      have t2 : decide ((i : Int) < 600) = true := decide_eq_true hi1
                      have HI := Aside0.mk hi
                      obtain ⟨adl, hal, x0⟩ := HLh.out _ k HK.out hS.out
                      obtain ⟨Am, cm, hmk, hby⟩ := HLm.out _ k HK.out hS.out
                      obtain ⟨adm, ham, x1⟩ := hby i HI.out
                      rw [hmk] at x0
                      unfold hdV at x0
                      dsimp only at x0
                      subst hal ham
                      clear hby hmk
                      go_wp2
                      go_roundg (600 - i - 1)
                      case measure => have := HJ3.out; have := HI.out; omega
                      case rel => exact ⟨i + 1, rfl, ⟨by have := HJ3.out; have := HI.out; omega⟩, hS⟩
                    · skip
                      go_wp2
                      go_roundg (4 - k - 1)
                      case measure => have := HJ.out; have := HK.out; omega
                      case rel => exact ⟨k + 1, rfl, ⟨by have := HJ.out; have := HK.out; omega⟩, hS⟩
            · skip
              go_wp2_with (first
                | ((with_reducible refine gate_load (ty := 27) rfl ?_); refine wpList_ldw ?_ 27 _ rfl ⟨g13, 0, none⟩ ?_ V _ (HLs.out _ _ _ hS.out.up2) Tryd.underlying27 rfl HSZ.out ?_; exact rfl; exact rfl; skip)
                | ((with_reducible refine gate_load (ty := 27) rfl ?_); refine wpList_ldw ?_ 27 _ rfl ⟨g2, 0, none⟩ ?_ V _ (HLs.out _ _ _ hS.out.up3) Tryd.underlying27 rfl HSZ.out ?_; exact rfl; exact rfl; skip)
                | ((with_reducible refine gate_eql (t := 27) rfl ?_); refine wpList_eqlw ?_ 27 27 _ _ rfl V ?_ ?_ guard27 (HEQ.out _) ?_; exact rfl; exact rfl; exact rfl; skip))
              go_ret
              exact ⟨rfl, hS.out.below⟩
def lentF (k : Nat) (s t : SL) : Option Bool := some true
theorem lent_pure (s t : SL) : ∃ k, lentF k s t = some true := ⟨0, rfl⟩
theorem lent18_row (k : Nat) (s t : SL) (v : Bool) (W : World) (hs : s.Ok) (ht : t.Ok) (hG : Wr.Half W) (h : lentF k s t = some v) :
    Calls Tryd.prog 10 #[.agg s.V.toArray, .agg t.V.toArray] W fun e w' => e = .returned (.bool v) ∧ Below W.heap.size W w' := by
  cases h
  cases hm : mayM s with
  | false => exact lent_no hG s t hs ht (.inl hm)
  | true =>
    cases hmt : mayM t with
    | false => exact lent_no hG s t hs ht (.inr hmt)
    | true => exact lent_yes hG s t hs ht hm hmt
end Go.Proofs.YtaflofcnjakaaaaDoor.M

namespace Go.Proofs.YtaflofcnjakaaaaDoor.Bulk
open Go.ChangeShapes Go.WideShapes Go.RowKit Go.Proofs.YtaflofcnjakaaaaDoorW.PrintWords Go.Proofs.YtaflofcnjakaaaaDoorW.PrintLast Go.Proofs.YtaflofcnjakaaaaDoorW.PrintMore Go.Proofs.YtaflofcnjakaaaaDoor.M Go.Proofs.YtaflofcnjakaaaaDoor.Pl Go.Proofs.YtaflofcnjakaaaaDoor.Wr Go.Proofs.YtaflofcnjakaaaaDoor.A
set_option linter.unusedVariables false
section
variable {H : Type} {enc : TypeId × Value → H} {W : World} {base : Nat} {spare : Nat → Bool} {held : Bool}
theorem bound_u8 {x : Int} (h : (Lit.int .u8 x).wf = true) : 0 ≤ x ∧ x < 256 := by
  simp [Lit.wf, IntKind.min, IntKind.max, IntKind.signed, IntKind.bits] at h
  omega
def valI : Value → Int
  | .int _ n => n
  | _ => 0
theorem opens_key {fuel : Nat} {cs : List Value} {x : DataW H × List MemPlace} (h : DataW.trod enc Tryd.prog W base spare held fuel 23 cs = some x) : ∃ l : List Int, cs = nums .u8 l ∧ l.length = 32 ∧ bytes_ l := by
  obtain ⟨xs, m, _, _, hl, hx, hf⟩ := DataW.trod_array Tryd.underlying23 h
  rw [show Tryd.prog.cellsOf 23 = 32 by kernel_rfl] at hl
  have q5 : Tryd.prog.cellsOf 5 = 1 := by kernel_rfl
  have each : ∀ v ∈ cs, ∃ n, v = .int .u8 n ∧ 0 ≤ n ∧ n < 256 := by
    intro v hv
    obtain ⟨i, hi, rfl⟩ := List.getElem_of_mem hv
    have h1 := hf i (by omega)
    rw [q5, Nat.mul_one, List.getElem?_eq_getElem (by omega)] at h1
    obtain ⟨n, he, _, hw⟩ := DataW.trod_int Tryd.underlying5 h1
    refine ⟨n, ?_, bound_u8 hw⟩
    have h2 : (cs.drop i).take 1 = [cs[i]] := by rw [List.drop_eq_getElem_cons hi]; rfl
    rw [h2] at he
    exact List.head_eq_of_cons_eq he
  refine ⟨cs.map valI, ?_, by rw [List.length_map, hl], ?_⟩
  · unfold nums
    rw [List.map_map]
    refine (List.map_congr_left (g := id) (fun v hv => ?_) |>.trans (List.map_id _)).symm
    obtain ⟨n, rfl, _⟩ := each v hv
    rfl
  · intro y hy
    obtain ⟨v, hv, rfl⟩ := List.mem_map.1 hy
    obtain ⟨n, rfl, h1⟩ := each v hv
    exact h1
theorem opens_i64 {fuel : Nat} {c : List Value} {x : DataW H × List MemPlace} (h : DataW.trod enc Tryd.prog W base spare held fuel 3 c = some x) : ∃ n, c = [.int .i64 n] := by
  obtain ⟨n, he, _, hw⟩ := DataW.trod_int Tryd.underlying3 h
  exact ⟨n, he⟩
theorem cut_ {α : Type} (cs : List α) (a n : Nat) {y : List α} (h : (cs.drop a).take n = y) : cs.drop a = y ++ cs.drop (a + n) := by
  rw [← h, ← List.drop_drop]
  exact (List.take_append_drop n _).symm
theorem some_at {α : Type} {xs : List α} {i : Nat} (h : i < xs.length) : ∃ x, xs[i]? = some x := ⟨_, List.getElem?_eq_getElem h⟩
theorem opens_ref {fuel : Nat} {cs : List Value} {x : DataW H × List MemPlace} (h : DataW.trod enc Tryd.prog W base spare held fuel 25 cs = some x) : ∃ (l : List Int) (a b : Int), cs = refV l a b ∧ l.length = 32 ∧ bytes_ l := by
  obtain ⟨xs, m, _, _, hl, hx, hf⟩ := DataW.trod_struct Tryd.underlying25 h
  rw [show Tryd.prog.cellsOf 25 = 34 by kernel_rfl] at hl
  have hx3 : xs.length = 3 := hx
  have q23 : Tryd.prog.cellsOf 23 = 32 := by kernel_rfl
  have q3 : Tryd.prog.cellsOf 3 = 1 := by kernel_rfl
  obtain ⟨x0, e0⟩ := some_at (show 0 < xs.length by omega)
  obtain ⟨x1, e1⟩ := some_at (show 1 < xs.length by omega)
  obtain ⟨x2, e2⟩ := some_at (show 2 < xs.length by omega)
  have f0 : DataW.trod enc Tryd.prog W base spare held m 23 ((cs.drop 0).take (Tryd.prog.cellsOf 23)) = some x0 := (hf 0 _ rfl).trans e0
  have f1 : DataW.trod enc Tryd.prog W base spare held m 3 ((cs.drop 32).take (Tryd.prog.cellsOf 3)) = some x1 := (hf 1 _ rfl).trans e1
  have f2 : DataW.trod enc Tryd.prog W base spare held m 3 ((cs.drop 33).take (Tryd.prog.cellsOf 3)) = some x2 := (hf 2 _ rfl).trans e2
  rw [q23] at f0
  rw [q3] at f1 f2
  obtain ⟨l, g0, hl0, hb0⟩ := opens_key f0
  obtain ⟨a, g1⟩ := opens_i64 f1
  obtain ⟨b, g2⟩ := opens_i64 f2
  refine ⟨l, a, b, ?_, hl0, hb0⟩
  have c0 := cut_ cs 0 32 g0
  have c1 := cut_ cs 32 1 g1
  have c2 := cut_ cs 33 1 g2
  rw [List.drop_zero] at c0
  rw [c0]
  show nums .u8 l ++ cs.drop 32 = _
  rw [c1]
  show nums .u8 l ++ ([Value.int .i64 a] ++ cs.drop 33) = _
  rw [c2, List.drop_eq_nil_of_le (show cs.length ≤ 33 + 1 by omega)]
  rfl
set_option maxRecDepth 100000 in
theorem opens_slot {fuel : Nat} {cs : List Value} {x : DataW H × List MemPlace} (h : DataW.trod enc Tryd.prog W base spare held fuel 27 cs = some x) : ∃ s : SL, s.Ok ∧ cs = s.V := by
  obtain ⟨xs, m, _, _, hl, hx, hf⟩ := DataW.trod_struct Tryd.underlying27 h
  rw [show Tryd.prog.cellsOf 27 = 105 by kernel_rfl] at hl
  have hx3 : xs.length = 8 := hx
  have q25 : Tryd.prog.cellsOf 25 = 34 := by kernel_rfl
  have q23 : Tryd.prog.cellsOf 23 = 32 := by kernel_rfl
  have q3 : Tryd.prog.cellsOf 3 = 1 := by kernel_rfl
  obtain ⟨x0, e0⟩ := some_at (show 0 < xs.length by omega)
  obtain ⟨x1, e1⟩ := some_at (show 1 < xs.length by omega)
  obtain ⟨x2, e2⟩ := some_at (show 2 < xs.length by omega)
  obtain ⟨x3, e3⟩ := some_at (show 3 < xs.length by omega)
  obtain ⟨x4, e4⟩ := some_at (show 4 < xs.length by omega)
  obtain ⟨x5, e5⟩ := some_at (show 5 < xs.length by omega)
  obtain ⟨x6, e6⟩ := some_at (show 6 < xs.length by omega)
  obtain ⟨x7, e7⟩ := some_at (show 7 < xs.length by omega)
  have f0 : DataW.trod enc Tryd.prog W base spare held m 3 ((cs.drop 0).take (Tryd.prog.cellsOf 3)) = some x0 := (hf 0 _ rfl).trans e0
  have f1 : DataW.trod enc Tryd.prog W base spare held m 3 ((cs.drop 1).take (Tryd.prog.cellsOf 3)) = some x1 := (hf 1 _ rfl).trans e1
  have f2 : DataW.trod enc Tryd.prog W base spare held m 3 ((cs.drop 2).take (Tryd.prog.cellsOf 3)) = some x2 := (hf 2 _ rfl).trans e2
  have f3 : DataW.trod enc Tryd.prog W base spare held m 3 ((cs.drop 3).take (Tryd.prog.cellsOf 3)) = some x3 := (hf 3 _ rfl).trans e3
  have f4 : DataW.trod enc Tryd.prog W base spare held m 3 ((cs.drop 4).take (Tryd.prog.cellsOf 3)) = some x4 := (hf 4 _ rfl).trans e4
  have f5 : DataW.trod enc Tryd.prog W base spare held m 23 ((cs.drop 5).take (Tryd.prog.cellsOf 23)) = some x5 := (hf 5 _ rfl).trans e5
  have f6 : DataW.trod enc Tryd.prog W base spare held m 25 ((cs.drop 37).take (Tryd.prog.cellsOf 25)) = some x6 := (hf 6 _ rfl).trans e6
  have f7 : DataW.trod enc Tryd.prog W base spare held m 25 ((cs.drop 71).take (Tryd.prog.cellsOf 25)) = some x7 := (hf 7 _ rfl).trans e7
  rw [q3] at f0 f1 f2 f3 f4
  rw [q23] at f5
  rw [q25] at f6 f7
  obtain ⟨a, g0⟩ := opens_i64 f0
  obtain ⟨b, g1⟩ := opens_i64 f1
  obtain ⟨c, g2⟩ := opens_i64 f2
  obtain ⟨d, g3⟩ := opens_i64 f3
  obtain ⟨e, g4⟩ := opens_i64 f4
  obtain ⟨k, g5, k1, k2⟩ := opens_key f5
  obtain ⟨r, rf, rl, g6, r1, r2⟩ := opens_ref f6
  obtain ⟨o, mf, ml, g7, o1, o2⟩ := opens_ref f7
  refine ⟨⟨a, b, c, d, e, k, r, rf, rl, o, mf, ml⟩, ⟨k1, r1, o1, k2, r2, o2⟩, ?_⟩
  have c0 := cut_ cs 0 1 g0
  have c1 := cut_ cs 1 1 g1
  have c2 := cut_ cs 2 1 g2
  have c3 := cut_ cs 3 1 g3
  have c4 := cut_ cs 4 1 g4
  have c5 := cut_ cs 5 32 g5
  have c6 := cut_ cs 37 34 g6
  have c7 := cut_ cs 71 34 g7
  rw [List.drop_zero] at c0
  rw [List.drop_eq_nil_of_le (show cs.length ≤ 71 + 34 by omega), List.append_nil] at c7
  rw [c0]
  show [Value.int .i64 a] ++ cs.drop 1 = _
  rw [c1]
  show [Value.int .i64 a] ++ ([Value.int .i64 b] ++ cs.drop 2) = _
  rw [c2]
  show [Value.int .i64 a] ++ ([Value.int .i64 b] ++ ([Value.int .i64 c] ++ cs.drop 3)) = _
  rw [c3]
  show [Value.int .i64 a] ++ ([Value.int .i64 b] ++ ([Value.int .i64 c] ++ ([Value.int .i64 d] ++ cs.drop 4))) = _
  rw [c4]
  show [Value.int .i64 a] ++ ([Value.int .i64 b] ++ ([Value.int .i64 c] ++ ([Value.int .i64 d] ++ ([Value.int .i64 e] ++ cs.drop 5)))) = _
  rw [c5]
  show [Value.int .i64 a] ++ ([Value.int .i64 b] ++ ([Value.int .i64 c] ++ ([Value.int .i64 d] ++ ([Value.int .i64 e] ++ (nums .u8 k ++ cs.drop 37))))) = _
  rw [c6]
  show [Value.int .i64 a] ++ ([Value.int .i64 b] ++ ([Value.int .i64 c] ++ ([Value.int .i64 d] ++ ([Value.int .i64 e] ++ (nums .u8 k ++ (refV r rf rl ++ cs.drop 71)))))) = _
  rw [c7]
  rfl
set_option maxRecDepth 100000 in
theorem arg_z {r : Reach} {b0 : Nat} {v : Value} {dd : DataW H} {ps : List MemPlace} (hv : Value.okWide Tryd.prog W r b0 27 v)
    (h : DataW.Trod enc Tryd.prog W base spare held 27 v dd ps) : ∃ s : SL, v = .agg s.V.toArray ∧ s.Ok := by
  obtain ⟨cs, rfl, hsz⟩ := okWide_struct Tryd.underlying27 hv
  obtain ⟨fuel, hf⟩ := h
  obtain ⟨s, hs, he⟩ := opens_slot hf
  have h1 : cs.toList = s.V := he
  exact ⟨s, by rw [← h1], hs⟩
end
end Go.Proofs.YtaflofcnjakaaaaDoor.Bulk

namespace Go.Proofs.YtaflofcnjakaaaaDoor.rootLent
open Go.ChangeShapes Go.WideShapes Go.ChangeAt Go.RowKit Go.Proofs.YtaflofcnjakaaaaDoorW.PrintWords Go.Proofs.YtaflofcnjakaaaaDoorW.PrintLast Go.Proofs.YtaflofcnjakaaaaDoorW.PrintMore Go.Proofs.YtaflofcnjakaaaaDoor.P Go.Proofs.YtaflofcnjakaaaaDoor.M Go.Proofs.YtaflofcnjakaaaaDoor.Wr Go.Proofs.YtaflofcnjakaaaaDoor.Pl Go.Proofs.YtaflofcnjakaaaaDoor.A
set_option linter.unusedVariables false
theorem own : ownKnob Tryd.prog.godebug = none := by kernel_rfl
theorem laidOut : laidOutB Tryd.prog = true := by kernel_rfl
theorem gTab : Tryd.prog.globalNamed "kiln/wire.half" = some 0 := by kernel_rfl
theorem gTabType : (Tryd.prog.globals[0]?).map (·.type) = some 129 := by kernel_rfl
theorem cellsTab : Tryd.prog.cellsOf 129 = 16 := by kernel_rfl
theorem cells90 : Tryd.prog.cellsOf 90 = 1 := by kernel_rfl
theorem half_of {W : World} (h : laidMetH Tryd.prog Rows.rootLentRow.laid W) : Wr.Half W := by
  have t : Lib.TabIs Tryd.prog W "kiln/wire.half" .u32 [0, 498536548, 997073096, 651767980, 1994146192, 1802195444, 1303535960, 1342533948, 3988292384, 4027552580, 3604390888, 3412177804, 2607071920, 2262029012, 2685067896, 3183342108] := Lib.tabIs_of_head (rest := []) gTab gTabType Tryd.underlying129 Tryd.underlying90 cells90 cellsTab h
  intro i hi
  have hc := t.cell gTab i (by simpa using hi)
  have e : ∀ j : Fin 16, ([0, 498536548, 997073096, 651767980, 1994146192, 1802195444, 1303535960, 1342533948, 3988292384, 4027552580, 3604390888, 3412177804, 2607071920, 2262029012, 2685067896, 3183342108] : List Int)[j.1]? = some ((halfL.getD j.1 0 : Nat) : Int) := by decide
  have e2 := e ⟨i, hi⟩
  first
  | (rw [List.getD_eq_getElem?_getD, e2] at hc; exact hc)
  | (rw [List.getElem?_eq_some_iff] at e2; obtain ⟨_, e3⟩ := e2; rw [e3] at hc; exact hc)
def IsRow (k : IntKind) (w : World) (a : Option Addr) (len cap : Nat) (zs : List Int) : Prop :=
  (a = none ∧ len = 0 ∧ cap = 0 ∧ zs = []) ∨
  ∃ x, a = some x ∧ len ≤ cap ∧ cap ≤ maxLen ∧ zs.length = cap ∧ (∀ i, i < zs.length → w.cell? (x.add i) = some (.int k (zs.getD i 0))) ∧ ∀ n ∈ zs, (Lit.int k n).wf = true
set_option maxRecDepth 100000 in
theorem contract (H : Type) (enc : TypeId × Value → H) (W : World) (base : Nat) (args : Array Value) (ds gs : List (DataW H)) (before : List MemPlace)
    (hval : ∀ (j : Nat) t v, Tryd.f10.params[j]? = some t → args[j]? = some v → Value.okWide Tryd.prog W .any base t v)
    (hW : DataW.Whole enc Tryd.prog Tryd.f10.params.toList Rows.rootLentSpec.vars false W args.toList ds gs before)
    (hsz0 : (DataW.weightsEach Tryd.prog (Tryd.f10.params.toList ++ Rows.rootLentSpec.plain.varTypes Tryd.prog) (ds ++ gs)).all (· ≤ reachBytes) = true)
    (hL : laidMetH Tryd.prog Rows.rootLentRow.laid W) :
    Calls Tryd.prog 10 args W fun e W' => ∃ v, e = .returned v ∧ Rows.rootLentSpec.post enc Tryd.prog Tryd.f10 false true false false W args v W' := by
  have hG := half_of hL
  have hW' := hW
  have hsz : (DataW.weightsEach Tryd.prog (Tryd.f10.params.toList ++ Rows.rootLentSpec.plain.varTypes Tryd.prog) (ds ++ gs)).all (· ≤ reachBytes) = true := hsz0
  obtain ⟨p, q, hA0, hV, rfl, hfz, hnd⟩ := hW
  have hA : DataW.TrodAll enc Tryd.prog W 0 (fun _ => true) true Tryd.f10.params.toList args.toList ds p := hA0
  rw [Tryd.params10] at hA hval hsz
  obtain ⟨v0, vs0, d0, ds0, p0, q0, hargs, rfl, rfl, h0, r0⟩ := trodAll_cons hA
  obtain ⟨v1, vs1, d1, ds1, p1, q1, rfl, rfl, rfl, h1, r1⟩ := trodAll_cons r0
  obtain ⟨rfl, rfl, rfl⟩ := trodAll_nil r1
  obtain rfl : args = #[v0, v1] := by cases args; simp_all
  obtain ⟨rfl, rfl⟩ := trodVars_none hV
  have k0 := h0
  have lt0 : ∀ x ∈ p0, x.block < W.heap.size := by obtain ⟨m, hm⟩ := k0; exact DataW.trod_lt m _ _ _ hm
  obtain ⟨s0, rfl, hs0⟩ := Bulk.arg_z (hval 0 27 v0 rfl rfl) h0
  have k1 := h1
  have lt1 : ∀ x ∈ p1, x.block < W.heap.size := by obtain ⟨m, hm⟩ := k1; exact DataW.trod_lt m _ _ _ hm
  obtain ⟨s1, rfl, hs1⟩ := Bulk.arg_z (hval 1 27 v1 rfl rfl) h1
  clear hA0 hsz0 hsz
  obtain ⟨k, h⟩ := M.lent_pure s0 s1 
  refine (M.lent18_row k s0 s1 true W hs0 hs1 hG h).mono ?_
  rintro e W' ⟨rfl, bel⟩
  exact ⟨_, rfl, _, _, _, [], _, [], hW', trodAll_mk1 (shut_bool Tryd.underlying4 _), (trodAll_cons_mk (Below.trod laidOut (by kernel_rfl) (of_decide_eq_true (by kernel_rfl)) k0 bel lt0) (trodAll_cons_mk (Below.trod laidOut (by kernel_rfl) (of_decide_eq_true (by kernel_rfl)) k1 bel lt1) trodAll_mk0)), rfl, bel.frame _, fun h => by cases h⟩
noncomputable def laidWorld (os : Os) : World :=
  { World.holding Tryd.prog os ⟨#[], #[], []⟩ with heap := (World.holding Tryd.prog os ⟨#[], #[], []⟩).heap.modify 0 fun
      | .cells _ t frozen => .cells #[.int .u32 0, .int .u32 498536548, .int .u32 997073096, .int .u32 651767980, .int .u32 1994146192, .int .u32 1802195444, .int .u32 1303535960, .int .u32 1342533948, .int .u32 3988292384, .int .u32 4027552580, .int .u32 3604390888, .int .u32 3412177804, .int .u32 2607071920, .int .u32 2262029012, .int .u32 2685067896, .int .u32 3183342108] t frozen
      | o => o }
set_option maxRecDepth 100000 in
theorem laid_met (os : Os) : laidMet Tryd.prog Rows.rootLentRow.laid ((laidWorld os).forCall (fun _ _ => 0) ⟨#[], #[.agg noSL.V.toArray, .agg noSL.V.toArray], []⟩).memory :=
  laidMet_of_run' 8 (by kernel_rfl) (by kernel_rfl)
set_option maxRecDepth 100000 in
theorem reads (os : Os) {H : Type} (enc : TypeId × Value → H) : ∃ places, DataW.whole enc Tryd.prog ((laidWorld os).forCall (fun _ _ => 0) ⟨#[], #[.agg noSL.V.toArray, .agg noSL.V.toArray], []⟩).memory Tryd.f10.params.toList Rows.rootLentSpec.vars false (#[.agg noSL.V.toArray, .agg noSL.V.toArray] : Array Value).toList 8 = some ([.agg [.lit (.int .i64 0), .lit (.int .i64 0), .lit (.int .i64 0), .lit (.int .i64 0), .lit (.int .i64 0), .agg [.lit (.int .u8 0), .lit (.int .u8 0), .lit (.int .u8 0), .lit (.int .u8 0), .lit (.int .u8 0), .lit (.int .u8 0), .lit (.int .u8 0), .lit (.int .u8 0), .lit (.int .u8 0), .lit (.int .u8 0), .lit (.int .u8 0), .lit (.int .u8 0), .lit (.int .u8 0), .lit (.int .u8 0), .lit (.int .u8 0), .lit (.int .u8 0), .lit (.int .u8 0), .lit (.int .u8 0), .lit (.int .u8 0), .lit (.int .u8 0), .lit (.int .u8 0), .lit (.int .u8 0), .lit (.int .u8 0), .lit (.int .u8 0), .lit (.int .u8 0), .lit (.int .u8 0), .lit (.int .u8 0), .lit (.int .u8 0), .lit (.int .u8 0), .lit (.int .u8 0), .lit (.int .u8 0), .lit (.int .u8 0)], .agg [.agg [.lit (.int .u8 0), .lit (.int .u8 0), .lit (.int .u8 0), .lit (.int .u8 0), .lit (.int .u8 0), .lit (.int .u8 0), .lit (.int .u8 0), .lit (.int .u8 0), .lit (.int .u8 0), .lit (.int .u8 0), .lit (.int .u8 0), .lit (.int .u8 0), .lit (.int .u8 0), .lit (.int .u8 0), .lit (.int .u8 0), .lit (.int .u8 0), .lit (.int .u8 0), .lit (.int .u8 0), .lit (.int .u8 0), .lit (.int .u8 0), .lit (.int .u8 0), .lit (.int .u8 0), .lit (.int .u8 0), .lit (.int .u8 0), .lit (.int .u8 0), .lit (.int .u8 0), .lit (.int .u8 0), .lit (.int .u8 0), .lit (.int .u8 0), .lit (.int .u8 0), .lit (.int .u8 0), .lit (.int .u8 0)], .lit (.int .i64 0), .lit (.int .i64 0)], .agg [.agg [.lit (.int .u8 0), .lit (.int .u8 0), .lit (.int .u8 0), .lit (.int .u8 0), .lit (.int .u8 0), .lit (.int .u8 0), .lit (.int .u8 0), .lit (.int .u8 0), .lit (.int .u8 0), .lit (.int .u8 0), .lit (.int .u8 0), .lit (.int .u8 0), .lit (.int .u8 0), .lit (.int .u8 0), .lit (.int .u8 0), .lit (.int .u8 0), .lit (.int .u8 0), .lit (.int .u8 0), .lit (.int .u8 0), .lit (.int .u8 0), .lit (.int .u8 0), .lit (.int .u8 0), .lit (.int .u8 0), .lit (.int .u8 0), .lit (.int .u8 0), .lit (.int .u8 0), .lit (.int .u8 0), .lit (.int .u8 0), .lit (.int .u8 0), .lit (.int .u8 0), .lit (.int .u8 0), .lit (.int .u8 0)], .lit (.int .i64 0), .lit (.int .i64 0)]], .agg [.lit (.int .i64 0), .lit (.int .i64 0), .lit (.int .i64 0), .lit (.int .i64 0), .lit (.int .i64 0), .agg [.lit (.int .u8 0), .lit (.int .u8 0), .lit (.int .u8 0), .lit (.int .u8 0), .lit (.int .u8 0), .lit (.int .u8 0), .lit (.int .u8 0), .lit (.int .u8 0), .lit (.int .u8 0), .lit (.int .u8 0), .lit (.int .u8 0), .lit (.int .u8 0), .lit (.int .u8 0), .lit (.int .u8 0), .lit (.int .u8 0), .lit (.int .u8 0), .lit (.int .u8 0), .lit (.int .u8 0), .lit (.int .u8 0), .lit (.int .u8 0), .lit (.int .u8 0), .lit (.int .u8 0), .lit (.int .u8 0), .lit (.int .u8 0), .lit (.int .u8 0), .lit (.int .u8 0), .lit (.int .u8 0), .lit (.int .u8 0), .lit (.int .u8 0), .lit (.int .u8 0), .lit (.int .u8 0), .lit (.int .u8 0)], .agg [.agg [.lit (.int .u8 0), .lit (.int .u8 0), .lit (.int .u8 0), .lit (.int .u8 0), .lit (.int .u8 0), .lit (.int .u8 0), .lit (.int .u8 0), .lit (.int .u8 0), .lit (.int .u8 0), .lit (.int .u8 0), .lit (.int .u8 0), .lit (.int .u8 0), .lit (.int .u8 0), .lit (.int .u8 0), .lit (.int .u8 0), .lit (.int .u8 0), .lit (.int .u8 0), .lit (.int .u8 0), .lit (.int .u8 0), .lit (.int .u8 0), .lit (.int .u8 0), .lit (.int .u8 0), .lit (.int .u8 0), .lit (.int .u8 0), .lit (.int .u8 0), .lit (.int .u8 0), .lit (.int .u8 0), .lit (.int .u8 0), .lit (.int .u8 0), .lit (.int .u8 0), .lit (.int .u8 0), .lit (.int .u8 0)], .lit (.int .i64 0), .lit (.int .i64 0)], .agg [.agg [.lit (.int .u8 0), .lit (.int .u8 0), .lit (.int .u8 0), .lit (.int .u8 0), .lit (.int .u8 0), .lit (.int .u8 0), .lit (.int .u8 0), .lit (.int .u8 0), .lit (.int .u8 0), .lit (.int .u8 0), .lit (.int .u8 0), .lit (.int .u8 0), .lit (.int .u8 0), .lit (.int .u8 0), .lit (.int .u8 0), .lit (.int .u8 0), .lit (.int .u8 0), .lit (.int .u8 0), .lit (.int .u8 0), .lit (.int .u8 0), .lit (.int .u8 0), .lit (.int .u8 0), .lit (.int .u8 0), .lit (.int .u8 0), .lit (.int .u8 0), .lit (.int .u8 0), .lit (.int .u8 0), .lit (.int .u8 0), .lit (.int .u8 0), .lit (.int .u8 0), .lit (.int .u8 0), .lit (.int .u8 0)], .lit (.int .i64 0), .lit (.int .i64 0)]]], [], places) :=
  ⟨[], by kernel_rfl⟩
set_option maxRecDepth 100000 in
theorem lifted (os : Os) (started : os.Started) (H : Type) (enc : TypeId × Value → H) (F : Stop.Interp) :
    ReturnsInHanded {} Tryd.checked os 10 .any ((OpenSpec.ofChange Rows.rootLentSpec).preRow enc Tryd.prog Tryd.f10 Rows.rootLentRow.domain false Rows.rootLentRow.laid) (((OpenSpec.ofChange Rows.rootLentSpec).at F).post enc Tryd.prog Tryd.f10 false true false false) := by
  obtain ⟨places, hx⟩ := reads os enc
  refine returnsInHanded_of_row (C := Tryd.checked) (s := OpenSpec.ofChange Rows.rootLentSpec) own started (by kernel_rfl) Tryd.func10
    (witness_row_at (enc := enc) (C := Tryd.checked) false (laidWorld os) #[.agg noSL.V.toArray, .agg noSL.V.toArray] rfl (by kernel_rfl) (by kernel_rfl) (by kernel_rfl)
      (OpenSpec.preRow_of_cond 8 hx (by kernel_rfl) (fun k hk => by cases hk) (by kernel_rfl) (laid_met os))) ?_
  intro W base args ds gs before hval hW _ hcond hsz hL _ _
  exact contract H enc W base args ds gs before hval hW hsz hL
set_option maxRecDepth 100000 in
theorem said : Rows.RootLentSaid :=
  OpenClaim.holds_of_cond 10 Tryd.f10 rfl rfl rfl rfl rfl rfl rfl ⟨rfl, rfl, rfl, rfl, rfl⟩ rfl rfl rfl rfl rfl (by kernel_rfl) Tryd.func10 (by kernel_rfl)
    (of_decide_eq_true (by kernel_rfl)) (by unfold Func.isWrapper; first | (rw [if_pos (by decide +kernel)]; kernel_rfl) | (rw [if_neg (by decide +kernel)]; exact ⟨rfl, rfl⟩))
    (fun os started H enc _ F => by rw [OpenClaim.pre_eq_preRow]; exact lifted os started H enc F)
theorem plain (f : FuncId) (fn : Func) (hf : Tryd.pinned.checked.prog.funcNamed "kiln/kilnlaw18.RootLent" = some f) (hfn : Tryd.pinned.checked.prog.funcs[f]? = some fn) :
    false = Tryd.pinned.checked.prog.looks [] ∧ ∀ (j : Nat) t, fn.params[j]? = some t → Tryd.pinned.checked.prog.wantsStandIn t = false := by
  obtain rfl : f = 10 := Option.some.inj ((show Tryd.prog.funcNamed "kiln/kilnlaw18.RootLent" = some 10 by kernel_rfl).symm.trans hf) |>.symm
  obtain rfl : fn = Tryd.f10 := (Option.some.inj (Tryd.func10.symm.trans hfn)).symm
  refine ⟨by kernel_rfl, fun j t ht => ?_⟩
  rw [Tryd.params10] at ht
  have hm : t ∈ [27, 27] := by simpa using Array.mem_of_getElem? ht
  have hall : ([27, 27].all fun u => !Tryd.prog.wantsStandIn u) = true := by kernel_rfl
  exact (show Tryd.prog.wantsStandIn t = false by simpa using List.all_eq_true.1 hall t hm)
set_option maxRecDepth 100000 in
theorem card : Rows.RootLentCardSaid :=
  Claim7.holds_tied_plain_at .later [] _ _ _ _ said (fun _ h => by cases h) (by kernel_rfl) (fun _ h => by cases h) rootLent_row_tie rfl ⟨rfl, rfl⟩ (by kernel_rfl) rfl plain (by kernel_rfl)
#print axioms card
end Go.Proofs.YtaflofcnjakaaaaDoor.rootLent
namespace Go.Proofs.YtaflofcnjakaaaaDoor
theorem rootLent_card_holds : Rows.RootLentCardSaid := rootLent.card
end Go.Proofs.YtaflofcnjakaaaaDoor
