/- Functions of the program as the executor found them: printed by program, checked by the kernel. -/
import Derived.Test.YtlapjnnkblbhdaaDoorLib0
set_option linter.unusedVariables false
set_option linter.unusedSimpArgs false
set_option maxRecDepth 100000
namespace Go.Sim.M
open Go.RowKit Go.Proofs

/-- The environment of cmp.isNaN int : its loops so far. -/

noncomputable def cmp_isNaN_E0 : Env := E0.fn 6 0 (lsOf []) (lpsOf [])

theorem cmp_isNaN_E0_ok : OrcOk Tryd.prog (ITryd.at 0) cmp_isNaN_E0 := E0_ok.fn

theorem cmp_isNaN_E0_lk56 : LoOk Tryd.prog (ITryd.at cmp_isNaN_E0.pin) cmp_isNaN_E0 (Tryd.f56.body.getD .skip) := loOk_nil (by kernel_rfl)

/- 1 nodes -/
noncomputable def cmp_isNaN (x : Int) : Bool := ((x != x))
noncomputable def cmp_isNaN_pre (x : Int) : Bool := true
theorem cmp_isNaN_x (x : Int) : Pre (cmp_isNaN_pre x) (XF Tryd.prog cmp_isNaN_E0 Tryd.f56 (Tryd.f56.body.getD .skip) [AV.int IntKind.i64 x]) (AV.bool (cmp_isNaN x)) := by
  have h : XF Tryd.prog cmp_isNaN_E0 Tryd.f56 (Tryd.f56.body.getD .skip) [AV.int IntKind.i64 x] = some (AV.bool (x != x)) := by kernel_rfl
  rw [h]; unfold cmp_isNaN cmp_isNaN_pre; repeat' (first | exact Pre.none | exact Pre.tt rfl | exact Pre.some rfl | refine Pre.l ?_ | refine Pre.r ?_ | refine Pre.br (f := fun (p : Bool) => ((AV.bool p) : AV)) ?_ ?_ | refine Pre.brt (f := fun (p : Bool) => ((AV.bool p) : AV)) ?_ ?_)
noncomputable def cmp_isNaN_o : List AV → Option (Bool × AV)
  | [AV.int IntKind.i64 x] => some (cmp_isNaN_pre x, (AV.bool (cmp_isNaN x)))
  | _ => none
theorem cmp_isNaN_c : OcOk Tryd.prog ITryd 56 cmp_isNaN_o := fun xs r h => by
  unfold cmp_isNaN_o at h; split at h
  · simp only [Option.some.injEq, Prod.mk.injEq] at h; obtain ⟨h1, rfl⟩ := h
    exact good_pin (p := cmp_isNaN_E0.pin) (good_XF mxTryd (inv0Ok Tryd.prog _) rfl cmp_isNaN_E0_ok Tryd.func56 rfl (by kernel_rfl) cmp_isNaN_E0_lk56 (Pre.get (cmp_isNaN_x _) h1))
  · simp at h


noncomputable def EL1_1 : Env := E0.with 56 cmp_isNaN_o

theorem EL1_1_ok : OrcOk Tryd.prog ITryd EL1_1 := E0_ok.with cmp_isNaN_c

/-- The environment of cmp.Compare int : its loops so far. -/

noncomputable def cmp_Compare_E0 : Env := EL1_1.fn 20 0 (lsOf []) (lpsOf [])

theorem cmp_Compare_E0_ok : OrcOk Tryd.prog (ITryd.at 0) cmp_Compare_E0 := EL1_1_ok.fn

theorem cmp_Compare_E0_lk40 : LoOk Tryd.prog (ITryd.at cmp_Compare_E0.pin) cmp_Compare_E0 (Tryd.f40.body.getD .skip) := loOk_nil (by kernel_rfl)

/- 11 nodes -/
noncomputable def cmp_Compare (x : Int) (y : Int) : Int := (br (cmp_isNaN x) (br (cmp_isNaN y) (((0 : Int))) (((-1 : Int)))) (br (cmp_isNaN y) (((1 : Int))) (br (decide (x < y)) (((-1 : Int))) (br (decide (x > y)) (((1 : Int))) (((0 : Int)))))))
noncomputable def cmp_Compare_pre (x : Int) (y : Int) : Bool := true
theorem cmp_Compare_x (x : Int) (y : Int) : Pre (cmp_Compare_pre x y) (XF Tryd.prog cmp_Compare_E0 Tryd.f40 (Tryd.f40.body.getD .skip) [AV.int IntKind.i64 x, AV.int IntKind.i64 y]) (AV.int IntKind.i64 (cmp_Compare x y)) := by
  have h : XF Tryd.prog cmp_Compare_E0 Tryd.f40 (Tryd.f40.body.getD .skip) [AV.int IntKind.i64 x, AV.int IntKind.i64 y] = br (cmp_isNaN x) (br (cmp_isNaN y) (some (AV.int IntKind.i64 (0 : Int))) (some (AV.int IntKind.i64 (-1 : Int)))) (br (cmp_isNaN y) (some (AV.int IntKind.i64 (1 : Int))) (br (decide (x < y)) (some (AV.int IntKind.i64 (-1 : Int))) (br (decide (x > y)) (some (AV.int IntKind.i64 (1 : Int))) (some (AV.int IntKind.i64 (0 : Int)))))) := by kernel_rfl
  rw [h]; unfold cmp_Compare cmp_Compare_pre; repeat' (first | exact Pre.none | exact Pre.tt rfl | exact Pre.some rfl | refine Pre.l ?_ | refine Pre.r ?_ | refine Pre.br (f := fun (p : Int) => ((AV.int IntKind.i64 p) : AV)) ?_ ?_ | refine Pre.brt (f := fun (p : Int) => ((AV.int IntKind.i64 p) : AV)) ?_ ?_)
noncomputable def cmp_Compare_o : List AV → Option (Bool × AV)
  | [AV.int IntKind.i64 x, AV.int IntKind.i64 y] => some (cmp_Compare_pre x y, (AV.int IntKind.i64 (cmp_Compare x y)))
  | _ => none
theorem cmp_Compare_c : OcOk Tryd.prog ITryd 40 cmp_Compare_o := fun xs r h => by
  unfold cmp_Compare_o at h; split at h
  · simp only [Option.some.injEq, Prod.mk.injEq] at h; obtain ⟨h1, rfl⟩ := h
    exact good_pin (p := cmp_Compare_E0.pin) (good_XF mxTryd (inv0Ok Tryd.prog _) rfl cmp_Compare_E0_ok Tryd.func40 rfl (by kernel_rfl) cmp_Compare_E0_lk40 (Pre.get (cmp_Compare_x _ _) h1))
  · simp at h


noncomputable def EL1_2 : Env := EL1_1.with 40 cmp_Compare_o

theorem EL1_2_ok : OrcOk Tryd.prog ITryd EL1_2 := EL1_1_ok.with cmp_Compare_c

/-- The environment of cmp.Or int : its loops so far. -/

noncomputable def cmp_Or_E0 : Env := EL1_2.fn 18 0 (lsOf []) (lpsOf [])

theorem cmp_Or_E0_ok : OrcOk Tryd.prog (ITryd.at 0) cmp_Or_E0 := EL1_2_ok.fn

theorem cmp_Or_E0_lk50 : LoOk Tryd.prog (ITryd.at cmp_Or_E0.pin) cmp_Or_E0 (Tryd.f50.body.getD .skip) := loOk_all (ls := [loopAt Tryd.f50 0]) (by kernel_rfl) (fun l hl lp hs => by
  simp only [List.mem_cons, List.not_mem_nil, or_false] at hl
  rcases hl with rfl
  · rw [show cmp_Or_E0.lp (codeId (loopAt Tryd.f50 0)) = none by kernel_rfl] at hs
    simp at hs)

/- 7 nodes -/
noncomputable def cmp_Or (a : Int) (b : Int) (c : Int) : Int := (br (a != (0 : Int)) ((a)) (br (b != (0 : Int)) ((b)) (br (c != (0 : Int)) ((c)) (((0 : Int))))))
noncomputable def cmp_Or_pre (a : Int) (b : Int) (c : Int) : Bool := true
theorem cmp_Or_x (a : Int) (b : Int) (c : Int) : Pre (cmp_Or_pre a b c) (XF Tryd.prog cmp_Or_E0 Tryd.f50 (Tryd.f50.body.getD .skip) [AV.list (1 : Nat) [AV.int IntKind.i64 a, AV.int IntKind.i64 b, AV.int IntKind.i64 c]]) (AV.int IntKind.i64 (cmp_Or a b c)) := by
  have h : XF Tryd.prog cmp_Or_E0 Tryd.f50 (Tryd.f50.body.getD .skip) [AV.list (1 : Nat) [AV.int IntKind.i64 a, AV.int IntKind.i64 b, AV.int IntKind.i64 c]] = br (a != (0 : Int)) (some (AV.int IntKind.i64 a)) (br (b != (0 : Int)) (some (AV.int IntKind.i64 b)) (br (c != (0 : Int)) (some (AV.int IntKind.i64 c)) (some (AV.int IntKind.i64 (0 : Int))))) := by kernel_rfl
  rw [h]; unfold cmp_Or cmp_Or_pre; repeat' (first | exact Pre.none | exact Pre.tt rfl | exact Pre.some rfl | refine Pre.l ?_ | refine Pre.r ?_ | refine Pre.br (f := fun (p : Int) => ((AV.int IntKind.i64 p) : AV)) ?_ ?_ | refine Pre.brt (f := fun (p : Int) => ((AV.int IntKind.i64 p) : AV)) ?_ ?_)
noncomputable def cmp_Or_o : List AV → Option (Bool × AV)
  | [AV.list (1 : Nat) [AV.int IntKind.i64 a, AV.int IntKind.i64 b, AV.int IntKind.i64 c]] => some (cmp_Or_pre a b c, (AV.int IntKind.i64 (cmp_Or a b c)))
  | _ => none
theorem cmp_Or_c : OcOk Tryd.prog ITryd 50 cmp_Or_o := fun xs r h => by
  unfold cmp_Or_o at h; split at h
  · simp only [Option.some.injEq, Prod.mk.injEq] at h; obtain ⟨h1, rfl⟩ := h
    exact good_pin (p := cmp_Or_E0.pin) (good_XF mxTryd (inv0Ok Tryd.prog _) rfl cmp_Or_E0_ok Tryd.func50 rfl (by kernel_rfl) cmp_Or_E0_lk50 (Pre.get (cmp_Or_x _ _ _) h1))
  · simp at h


noncomputable def EL1_3 : Env := EL1_2.with 50 cmp_Or_o

theorem EL1_3_ok : OrcOk Tryd.prog ITryd EL1_3 := EL1_2_ok.with cmp_Or_c

/-- The environment of bitemporal/value.Compare: its loops so far. -/

noncomputable def value_Compare_E0 : Env := EL1_3.fn 22 0 (lsOf []) (lpsOf [])

theorem value_Compare_E0_ok : OrcOk Tryd.prog (ITryd.at 0) value_Compare_E0 := EL1_3_ok.fn

theorem value_Compare_E0_lk32 : LoOk Tryd.prog (ITryd.at value_Compare_E0.pin) value_Compare_E0 (Tryd.f32.body.getD .skip) := loOk_nil (by kernel_rfl)

/- 1 nodes -/
noncomputable def value_Compare (a_k : Int) (a_i : Int) (a_t : List UInt8) (b_k : Int) (b_i : Int) (b_t : List UInt8) : Int := ((cmp_Or (cmp_Compare a_k b_k) (cmp_Compare a_i b_i) (Lib.compareBytes a_t b_t)))
noncomputable def value_Compare_pre (a_k : Int) (a_i : Int) (a_t : List UInt8) (b_k : Int) (b_i : Int) (b_t : List UInt8) : Bool := true
theorem value_Compare_x (a_k : Int) (a_i : Int) (a_t : List UInt8) (b_k : Int) (b_i : Int) (b_t : List UInt8) : Pre (value_Compare_pre a_k a_i a_t b_k b_i b_t) (XF Tryd.prog value_Compare_E0 Tryd.f32 (Tryd.f32.body.getD .skip) [AV.agg [AV.int IntKind.i64 a_k, AV.int IntKind.i64 a_i, AV.str a_t], AV.agg [AV.int IntKind.i64 b_k, AV.int IntKind.i64 b_i, AV.str b_t]]) (AV.int IntKind.i64 (value_Compare a_k a_i a_t b_k b_i b_t)) := by
  have h : XF Tryd.prog value_Compare_E0 Tryd.f32 (Tryd.f32.body.getD .skip) [AV.agg [AV.int IntKind.i64 a_k, AV.int IntKind.i64 a_i, AV.str a_t], AV.agg [AV.int IntKind.i64 b_k, AV.int IntKind.i64 b_i, AV.str b_t]] = some (AV.int IntKind.i64 (cmp_Or (cmp_Compare a_k b_k) (cmp_Compare a_i b_i) (Lib.compareBytes a_t b_t))) := by kernel_rfl
  rw [h]; unfold value_Compare value_Compare_pre; repeat' (first | exact Pre.none | exact Pre.tt rfl | exact Pre.some rfl | refine Pre.l ?_ | refine Pre.r ?_ | refine Pre.br (f := fun (p : Int) => ((AV.int IntKind.i64 p) : AV)) ?_ ?_ | refine Pre.brt (f := fun (p : Int) => ((AV.int IntKind.i64 p) : AV)) ?_ ?_)
noncomputable def value_Compare_o : List AV → Option (Bool × AV)
  | [AV.agg [AV.int IntKind.i64 a_k, AV.int IntKind.i64 a_i, AV.str a_t], AV.agg [AV.int IntKind.i64 b_k, AV.int IntKind.i64 b_i, AV.str b_t]] => some (value_Compare_pre a_k a_i a_t b_k b_i b_t, (AV.int IntKind.i64 (value_Compare a_k a_i a_t b_k b_i b_t)))
  | _ => none
theorem value_Compare_c : OcOk Tryd.prog ITryd 32 value_Compare_o := fun xs r h => by
  unfold value_Compare_o at h; split at h
  · simp only [Option.some.injEq, Prod.mk.injEq] at h; obtain ⟨h1, rfl⟩ := h
    exact good_pin (p := value_Compare_E0.pin) (good_XF mxTryd (inv0Ok Tryd.prog _) rfl value_Compare_E0_ok Tryd.func32 rfl (by kernel_rfl) value_Compare_E0_lk32 (Pre.get (value_Compare_x _ _ _ _ _ _) h1))
  · simp at h


noncomputable def EL1_4 : Env := EL1_3.with 32 value_Compare_o

theorem EL1_4_ok : OrcOk Tryd.prog ITryd EL1_4 := EL1_3_ok.with value_Compare_c

/-- The environment of bitemporal/bitemporalref07.sign: its loops so far. -/

noncomputable def ref07_sign_E0 : Env := EL1_4.fn 7 0 (lsOf []) (lpsOf [])

theorem ref07_sign_E0_ok : OrcOk Tryd.prog (ITryd.at 0) ref07_sign_E0 := EL1_4_ok.fn

theorem ref07_sign_E0_lk52 : LoOk Tryd.prog (ITryd.at ref07_sign_E0.pin) ref07_sign_E0 (Tryd.f52.body.getD .skip) := loOk_nil (by kernel_rfl)

/- 5 nodes -/
noncomputable def ref07_sign (less : Bool) (greater : Bool) : Int := (br (less) (((-1 : Int))) (br (greater) (((1 : Int))) (((0 : Int)))))
noncomputable def ref07_sign_pre (less : Bool) (greater : Bool) : Bool := true
theorem ref07_sign_x (less : Bool) (greater : Bool) : Pre (ref07_sign_pre less greater) (XF Tryd.prog ref07_sign_E0 Tryd.f52 (Tryd.f52.body.getD .skip) [AV.bool less, AV.bool greater]) (AV.int IntKind.i64 (ref07_sign less greater)) := by
  have h : XF Tryd.prog ref07_sign_E0 Tryd.f52 (Tryd.f52.body.getD .skip) [AV.bool less, AV.bool greater] = br less (some (AV.int IntKind.i64 (-1 : Int))) (br greater (some (AV.int IntKind.i64 (1 : Int))) (some (AV.int IntKind.i64 (0 : Int)))) := by kernel_rfl
  rw [h]; unfold ref07_sign ref07_sign_pre; repeat' (first | exact Pre.none | exact Pre.tt rfl | exact Pre.some rfl | refine Pre.l ?_ | refine Pre.r ?_ | refine Pre.br (f := fun (p : Int) => ((AV.int IntKind.i64 p) : AV)) ?_ ?_ | refine Pre.brt (f := fun (p : Int) => ((AV.int IntKind.i64 p) : AV)) ?_ ?_)
noncomputable def ref07_sign_o : List AV → Option (Bool × AV)
  | [AV.bool less, AV.bool greater] => some (ref07_sign_pre less greater, (AV.int IntKind.i64 (ref07_sign less greater)))
  | _ => none
theorem ref07_sign_c : OcOk Tryd.prog ITryd 52 ref07_sign_o := fun xs r h => by
  unfold ref07_sign_o at h; split at h
  · simp only [Option.some.injEq, Prod.mk.injEq] at h; obtain ⟨h1, rfl⟩ := h
    exact good_pin (p := ref07_sign_E0.pin) (good_XF mxTryd (inv0Ok Tryd.prog _) rfl ref07_sign_E0_ok Tryd.func52 rfl (by kernel_rfl) ref07_sign_E0_lk52 (Pre.get (ref07_sign_x _ _) h1))
  · simp at h


noncomputable def EL1_5 : Env := EL1_4.with 52 ref07_sign_o

theorem EL1_5_ok : OrcOk Tryd.prog ITryd EL1_5 := EL1_4_ok.with ref07_sign_c

/-- The environment of bitemporal/bitemporalref07.Compare: its loops so far. -/

noncomputable def ref07_Compare_E0 : Env := EL1_5.fn 48 0 (lsOf []) (lpsOf [])

theorem ref07_Compare_E0_ok : OrcOk Tryd.prog (ITryd.at 0) ref07_Compare_E0 := EL1_5_ok.fn

theorem ref07_Compare_E0_lk33 : LoOk Tryd.prog (ITryd.at ref07_Compare_E0.pin) ref07_Compare_E0 (Tryd.f33.body.getD .skip) := loOk_nil (by kernel_rfl)

/- 5 nodes -/
noncomputable def ref07_Compare (a_k : Int) (a_i : Int) (a_t : List UInt8) (b_k : Int) (b_i : Int) (b_t : List UInt8) : Int := (br (a_k != b_k) ((ref07_sign (decide (a_k < b_k)) (decide (a_k > b_k)))) (br (a_i != b_i) ((ref07_sign (decide (a_i < b_i)) (decide (a_i > b_i)))) ((ref07_sign (Op.bytesLess a_t b_t) !(Op.bytesLess a_t b_t || a_t == b_t)))))
noncomputable def ref07_Compare_pre (a_k : Int) (a_i : Int) (a_t : List UInt8) (b_k : Int) (b_i : Int) (b_t : List UInt8) : Bool := true
theorem ref07_Compare_x (a_k : Int) (a_i : Int) (a_t : List UInt8) (b_k : Int) (b_i : Int) (b_t : List UInt8) : Pre (ref07_Compare_pre a_k a_i a_t b_k b_i b_t) (XF Tryd.prog ref07_Compare_E0 Tryd.f33 (Tryd.f33.body.getD .skip) [AV.agg [AV.int IntKind.i64 a_k, AV.int IntKind.i64 a_i, AV.str a_t], AV.agg [AV.int IntKind.i64 b_k, AV.int IntKind.i64 b_i, AV.str b_t]]) (AV.int IntKind.i64 (ref07_Compare a_k a_i a_t b_k b_i b_t)) := by
  have h : XF Tryd.prog ref07_Compare_E0 Tryd.f33 (Tryd.f33.body.getD .skip) [AV.agg [AV.int IntKind.i64 a_k, AV.int IntKind.i64 a_i, AV.str a_t], AV.agg [AV.int IntKind.i64 b_k, AV.int IntKind.i64 b_i, AV.str b_t]] = br (a_k != b_k) (some (AV.int IntKind.i64 (ref07_sign (decide (a_k < b_k)) (decide (a_k > b_k))))) (br (a_i != b_i) (some (AV.int IntKind.i64 (ref07_sign (decide (a_i < b_i)) (decide (a_i > b_i))))) (some (AV.int IntKind.i64 (ref07_sign (Op.bytesLess a_t b_t) !(Op.bytesLess a_t b_t || a_t == b_t))))) := by kernel_rfl
  rw [h]; unfold ref07_Compare ref07_Compare_pre; repeat' (first | exact Pre.none | exact Pre.tt rfl | exact Pre.some rfl | refine Pre.l ?_ | refine Pre.r ?_ | refine Pre.br (f := fun (p : Int) => ((AV.int IntKind.i64 p) : AV)) ?_ ?_ | refine Pre.brt (f := fun (p : Int) => ((AV.int IntKind.i64 p) : AV)) ?_ ?_)
noncomputable def ref07_Compare_o : List AV → Option (Bool × AV)
  | [AV.agg [AV.int IntKind.i64 a_k, AV.int IntKind.i64 a_i, AV.str a_t], AV.agg [AV.int IntKind.i64 b_k, AV.int IntKind.i64 b_i, AV.str b_t]] => some (ref07_Compare_pre a_k a_i a_t b_k b_i b_t, (AV.int IntKind.i64 (ref07_Compare a_k a_i a_t b_k b_i b_t)))
  | _ => none
theorem ref07_Compare_c : OcOk Tryd.prog ITryd 33 ref07_Compare_o := fun xs r h => by
  unfold ref07_Compare_o at h; split at h
  · simp only [Option.some.injEq, Prod.mk.injEq] at h; obtain ⟨h1, rfl⟩ := h
    exact good_pin (p := ref07_Compare_E0.pin) (good_XF mxTryd (inv0Ok Tryd.prog _) rfl ref07_Compare_E0_ok Tryd.func33 rfl (by kernel_rfl) ref07_Compare_E0_lk33 (Pre.get (ref07_Compare_x _ _ _ _ _ _) h1))
  · simp at h


noncomputable def EL1_6 : Env := EL1_5.with 33 ref07_Compare_o

theorem EL1_6_ok : OrcOk Tryd.prog ITryd EL1_6 := EL1_5_ok.with ref07_Compare_c

/-- The environment of slices.CompareFunc   bitemporal/api.Value,  bitemporal/api.Value,bitemporal/api.Value,bitemporal/api.Value : its loops so far. -/

noncomputable def slices_CompareFunc_E0 : Env := EL1_6.fn 39 0 (lsOf []) (lpsOf [])

theorem slices_CompareFunc_E0_ok : OrcOk Tryd.prog (ITryd.at 0) slices_CompareFunc_E0 := EL1_6_ok.fn

theorem slices_CompareFunc_E0_lk31_0 : LoOk Tryd.prog (ITryd.at slices_CompareFunc_E0.pin) slices_CompareFunc_E0 (loopAt Tryd.f31 0) := loOk_nil (by kernel_rfl)

/- 15 nodes -/
noncomputable def slices_CompareFunc_l0_step (s1 : List AV) (s2 : List AV) (t11 : List AV) (t12 : Int) : (Int) → Option ((Int) ⊕ (Bool × (Int) × (Unit))) := fun (t13) => br (decide (t13 < t12)) (br (decide ((0 : Int) ≤ t13) && decide (t13 < (↑t11.length : Int))) (br (decide (t13.toNat < t11.length) && ((t11.getD t13.toNat AV.top).cells.length == (3 : Nat) && hasShs [Sh.int IntKind.i64, Sh.int IntKind.i64, Sh.str] (t11.getD t13.toNat AV.top).cells (0 : Nat))) (br (decide (t13 ≥ (↑s2.length : Int))) (some (.inr (true, ((1 : Int)), ()))) (br (decide ((0 : Int) ≤ t13) && decide (t13 < (↑s2.length : Int))) (br (decide (t13.toNat < s2.length) && ((s2.getD t13.toNat AV.top).cells.length == (3 : Nat) && hasShs [Sh.int IntKind.i64, Sh.int IntKind.i64, Sh.str] (s2.getD t13.toNat AV.top).cells (0 : Nat))) (br (value_Compare ((t11.getD t13.toNat AV.top).cells.getD (0 : Nat) AV.top).toInt ((t11.getD t13.toNat AV.top).cells.getD (1 : Nat) AV.top).toInt ((t11.getD t13.toNat AV.top).cells.getD (2 : Nat) AV.top).toStr ((s2.getD t13.toNat AV.top).cells.getD (0 : Nat) AV.top).toInt ((s2.getD t13.toNat AV.top).cells.getD (1 : Nat) AV.top).toInt ((s2.getD t13.toNat AV.top).cells.getD (2 : Nat) AV.top).toStr != (0 : Int)) (some (.inr (true, (value_Compare ((t11.getD t13.toNat AV.top).cells.getD (0 : Nat) AV.top).toInt ((t11.getD t13.toNat AV.top).cells.getD (1 : Nat) AV.top).toInt ((t11.getD t13.toNat AV.top).cells.getD (2 : Nat) AV.top).toStr ((s2.getD t13.toNat AV.top).cells.getD (0 : Nat) AV.top).toInt ((s2.getD t13.toNat AV.top).cells.getD (1 : Nat) AV.top).toInt ((s2.getD t13.toNat AV.top).cells.getD (2 : Nat) AV.top).toStr), ()))) (some (.inl (IntKind.i64.wrap (t13 + (1 : Int)))))) (none)) (none))) (none)) (none)) (some (.inr (false, 0, ())))
noncomputable def slices_CompareFunc_l0_L (s1 : List AV) (s2 : List AV) (t11 : List AV) (t12 : Int) : (Int) → List AV × List Box := fun (t13) => ([AV.list (3 : Nat) s1, AV.list (3 : Nat) s2, AV.func (32 : Nat) [], AV.list (3 : Nat) t11, AV.int IntKind.i64 t12, AV.int IntKind.i64 t13], [])
noncomputable def slices_CompareFunc_l0_out (s1 : List AV) (s2 : List AV) (t11 : List AV) (t12 : Int) : (Bool × (Int) × (Unit)) → LR := fun p => (.node p.1 (.leaf (Exit.ret) [AV.list (3 : Nat) s1, AV.list (3 : Nat) s2, AV.int IntKind.i64 p.2.1] []) (.leaf (Exit.exit (0 : Nat)) [AV.list (3 : Nat) s1, AV.list (3 : Nat) s2, AV.top] []))
theorem slices_CompareFunc_l0_r (s1 : List AV) (s2 : List AV) (t11 : List AV) (t12 : Int) (t13 : Int) : Enc (encR (slices_CompareFunc_l0_L s1 s2 t11 t12) (slices_CompareFunc_l0_out s1 s2 t11 t12)) (slices_CompareFunc_l0_step s1 s2 t11 t12 (t13)) (XR Tryd.prog slices_CompareFunc_E0 [0, 1, 2, 11, 12, 13] [0, 1, 6] [] (loopAt Tryd.f31 0) [AV.list (3 : Nat) s1, AV.list (3 : Nat) s2, AV.func (32 : Nat) [], AV.list (3 : Nat) t11, AV.int IntKind.i64 t12, AV.int IntKind.i64 t13] []) := by
  have h : XR Tryd.prog slices_CompareFunc_E0 [0, 1, 2, 11, 12, 13] [0, 1, 6] [] (loopAt Tryd.f31 0) [AV.list (3 : Nat) s1, AV.list (3 : Nat) s2, AV.func (32 : Nat) [], AV.list (3 : Nat) t11, AV.int IntKind.i64 t12, AV.int IntKind.i64 t13] [] = br (decide (t13 < t12)) (br (decide ((0 : Int) ≤ t13) && decide (t13 < (↑t11.length : Int))) (br (decide (t13.toNat < t11.length) && ((t11.getD t13.toNat AV.top).cells.length == (3 : Nat) && hasShs [Sh.int IntKind.i64, Sh.int IntKind.i64, Sh.str] (t11.getD t13.toNat AV.top).cells (0 : Nat))) (br (decide (t13 ≥ (↑s2.length : Int))) (some (Exit.ret, [AV.list (3 : Nat) s1, AV.list (3 : Nat) s2, AV.int IntKind.i64 (1 : Int)], [])) (br (decide ((0 : Int) ≤ t13) && decide (t13 < (↑s2.length : Int))) (br (decide (t13.toNat < s2.length) && ((s2.getD t13.toNat AV.top).cells.length == (3 : Nat) && hasShs [Sh.int IntKind.i64, Sh.int IntKind.i64, Sh.str] (s2.getD t13.toNat AV.top).cells (0 : Nat))) (br (value_Compare ((t11.getD t13.toNat AV.top).cells.getD (0 : Nat) AV.top).toInt ((t11.getD t13.toNat AV.top).cells.getD (1 : Nat) AV.top).toInt ((t11.getD t13.toNat AV.top).cells.getD (2 : Nat) AV.top).toStr ((s2.getD t13.toNat AV.top).cells.getD (0 : Nat) AV.top).toInt ((s2.getD t13.toNat AV.top).cells.getD (1 : Nat) AV.top).toInt ((s2.getD t13.toNat AV.top).cells.getD (2 : Nat) AV.top).toStr != (0 : Int)) (some (Exit.ret, [AV.list (3 : Nat) s1, AV.list (3 : Nat) s2, AV.int IntKind.i64 (value_Compare ((t11.getD t13.toNat AV.top).cells.getD (0 : Nat) AV.top).toInt ((t11.getD t13.toNat AV.top).cells.getD (1 : Nat) AV.top).toInt ((t11.getD t13.toNat AV.top).cells.getD (2 : Nat) AV.top).toStr ((s2.getD t13.toNat AV.top).cells.getD (0 : Nat) AV.top).toInt ((s2.getD t13.toNat AV.top).cells.getD (1 : Nat) AV.top).toInt ((s2.getD t13.toNat AV.top).cells.getD (2 : Nat) AV.top).toStr)], [])) (some (Exit.normal, [AV.list (3 : Nat) s1, AV.list (3 : Nat) s2, AV.func (32 : Nat) [], AV.list (3 : Nat) t11, AV.int IntKind.i64 t12, AV.int IntKind.i64 (IntKind.i64.wrap (t13 + (1 : Int)))], []))) none) none)) none) none) (some (Exit.exit (0 : Nat), [AV.list (3 : Nat) s1, AV.list (3 : Nat) s2, AV.top], [])) := by kernel_rfl
  rw [h]; unfold slices_CompareFunc_l0_step; repeat' (first | exact Enc.none | exact Enc.some rfl | refine Enc.br ?_ ?_)
noncomputable def slices_CompareFunc_l0_lp : Lp := ⟨[0, 1, 2, 11, 12, 13], [0, 1, 6], [], fun vals H => match vals, H with
  | [AV.list (3 : Nat) s1, AV.list (3 : Nat) s2, AV.func (32 : Nat) [], AV.list (3 : Nat) t11, AV.int IntKind.i64 t12, AV.int IntKind.i64 t13], [] => some ((Iter (slices_CompareFunc_l0_step s1 s2 t11 t12) (t13)).isSome, slices_CompareFunc_l0_out s1 s2 t11 t12 ((Iter (slices_CompareFunc_l0_step s1 s2 t11 t12) (t13)).getD (false, 0, ())))
  | _, _ => none⟩
theorem slices_CompareFunc_l0_lok : LoopOk Tryd.prog (ITryd.at slices_CompareFunc_E0.pin) slices_CompareFunc_E0.nt (loopAt Tryd.f31 0) slices_CompareFunc_l0_lp := fun vals H r h => by
  unfold slices_CompareFunc_l0_lp at h; dsimp only at h; split at h
  · simp only [Option.some.injEq, Prod.mk.injEq] at h; obtain ⟨h1, rfl⟩ := h
    obtain ⟨q, hq⟩ := Option.isSome_iff_exists.1 h1
    rw [hq]
    exact loop_of_XR mxTryd (inv0Ok Tryd.prog _) rfl slices_CompareFunc_E0_ok slices_CompareFunc_E0_lk31_0 (slices_CompareFunc_l0_L _ _ _ _) (slices_CompareFunc_l0_out _ _ _ _) (fun p => by simp only [slices_CompareFunc_l0_out, LR.eval]; first | (simp; done) | (repeat' split <;> simp)) (fun s => slices_CompareFunc_l0_r _ _ _ _ _) hq
  · simp at h


/-- The environment of slices.CompareFunc   bitemporal/api.Value,  bitemporal/api.Value,bitemporal/api.Value,bitemporal/api.Value : its loops so far. -/

noncomputable def slices_CompareFunc_E1 : Env := EL1_6.fn 39 0 (lsOf []) (lpsOf [(2, slices_CompareFunc_l0_lp)])

theorem slices_CompareFunc_E1_ok : OrcOk Tryd.prog (ITryd.at 0) slices_CompareFunc_E1 := EL1_6_ok.fn

theorem slices_CompareFunc_E1_lk31 : LoOk Tryd.prog (ITryd.at slices_CompareFunc_E1.pin) slices_CompareFunc_E1 (Tryd.f31.body.getD .skip) := loOk_all (ls := [loopAt Tryd.f31 0]) (by kernel_rfl) (fun l hl lp hs => by
  simp only [List.mem_cons, List.not_mem_nil, or_false] at hl
  rcases hl with rfl
  · rw [show slices_CompareFunc_E1.lp (codeId (loopAt Tryd.f31 0)) = some slices_CompareFunc_l0_lp by kernel_rfl] at hs
    simp only [Option.some.injEq] at hs; subst hs; exact slices_CompareFunc_l0_lok)

/- 7 nodes -/
noncomputable def slices_CompareFunc (a : List AV) (b : List AV) : Int := (br (((Iter (slices_CompareFunc_l0_step a b a (↑a.length : Int)) (0 : Int)).getD (false, (0 : Int), ())).fst) ((((Iter (slices_CompareFunc_l0_step a b a (↑a.length : Int)) (0 : Int)).getD (false, (0 : Int), ())).snd.fst)) (br (decide ((↑a.length : Int) < (↑b.length : Int))) (((-1 : Int))) (((0 : Int)))))
noncomputable def slices_CompareFunc_pre (a : List AV) (b : List AV) : Bool := br ((Iter (slices_CompareFunc_l0_step a b a (↑a.length : Int)) (0 : Int)).isSome) (true) (false)
theorem slices_CompareFunc_x (a : List AV) (b : List AV) : Pre (slices_CompareFunc_pre a b) (XF Tryd.prog slices_CompareFunc_E1 Tryd.f31 (Tryd.f31.body.getD .skip) [AV.list (3 : Nat) a, AV.list (3 : Nat) b, AV.func (32 : FuncId) []]) (AV.int IntKind.i64 (slices_CompareFunc a b)) := by
  have h : XF Tryd.prog slices_CompareFunc_E1 Tryd.f31 (Tryd.f31.body.getD .skip) [AV.list (3 : Nat) a, AV.list (3 : Nat) b, AV.func (32 : FuncId) []] = br (Iter (slices_CompareFunc_l0_step a b a (↑a.length : Int)) (0 : Int)).isSome (br ((Iter (slices_CompareFunc_l0_step a b a (↑a.length : Int)) (0 : Int)).getD (false, (0 : Int), ())).fst (some (AV.int IntKind.i64 ((Iter (slices_CompareFunc_l0_step a b a (↑a.length : Int)) (0 : Int)).getD (false, (0 : Int), ())).snd.fst)) (br (decide ((↑a.length : Int) < (↑b.length : Int))) (some (AV.int IntKind.i64 (-1 : Int))) (some (AV.int IntKind.i64 (0 : Int))))) none := by kernel_rfl
  rw [h]; unfold slices_CompareFunc slices_CompareFunc_pre; repeat' (first | exact Pre.none | exact Pre.tt rfl | exact Pre.some rfl | refine Pre.l ?_ | refine Pre.r ?_ | refine Pre.br (f := fun (p : Int) => ((AV.int IntKind.i64 p) : AV)) ?_ ?_ | refine Pre.brt (f := fun (p : Int) => ((AV.int IntKind.i64 p) : AV)) ?_ ?_)
noncomputable def slices_CompareFunc_o : List AV → Option (Bool × AV)
  | [AV.list (3 : Nat) a, AV.list (3 : Nat) b, AV.func (32 : FuncId) []] => some (slices_CompareFunc_pre a b, (AV.int IntKind.i64 (slices_CompareFunc a b)))
  | _ => none
theorem slices_CompareFunc_c : OcOk Tryd.prog ITryd 31 slices_CompareFunc_o := fun xs r h => by
  unfold slices_CompareFunc_o at h; split at h
  · simp only [Option.some.injEq, Prod.mk.injEq] at h; obtain ⟨h1, rfl⟩ := h
    exact good_pin (p := slices_CompareFunc_E1.pin) (good_XF mxTryd (inv0Ok Tryd.prog _) rfl slices_CompareFunc_E1_ok Tryd.func31 rfl (by kernel_rfl) slices_CompareFunc_E1_lk31 (Pre.get (slices_CompareFunc_x _ _) h1))
  · simp at h


noncomputable def EL1_7 : Env := EL1_6.with 31 slices_CompareFunc_o

theorem EL1_7_ok : OrcOk Tryd.prog ITryd EL1_7 := EL1_6_ok.with slices_CompareFunc_c

/-- The environment of bitemporal/tuple.Compare: its loops so far. -/

noncomputable def tuple_Compare_E0 : Env := EL1_7.fn 8 0 (lsOf []) (lpsOf [])

theorem tuple_Compare_E0_ok : OrcOk Tryd.prog (ITryd.at 0) tuple_Compare_E0 := EL1_7_ok.fn

theorem tuple_Compare_E0_lk10 : LoOk Tryd.prog (ITryd.at tuple_Compare_E0.pin) tuple_Compare_E0 (Tryd.f10.body.getD .skip) := loOk_nil (by kernel_rfl)

/- 3 nodes -/
noncomputable def tuple_Compare (a : List AV) (b : List AV) : Int := ((slices_CompareFunc a b))
noncomputable def tuple_Compare_pre (a : List AV) (b : List AV) : Bool := br (slices_CompareFunc_pre a b) (true) (false)
theorem tuple_Compare_x (a : List AV) (b : List AV) : Pre (tuple_Compare_pre a b) (XF Tryd.prog tuple_Compare_E0 Tryd.f10 (Tryd.f10.body.getD .skip) [AV.list (3 : Nat) a, AV.list (3 : Nat) b]) (AV.int IntKind.i64 (tuple_Compare a b)) := by
  have h : XF Tryd.prog tuple_Compare_E0 Tryd.f10 (Tryd.f10.body.getD .skip) [AV.list (3 : Nat) a, AV.list (3 : Nat) b] = br (slices_CompareFunc_pre a b) (some (AV.int IntKind.i64 (slices_CompareFunc a b))) none := by kernel_rfl
  rw [h]; unfold tuple_Compare tuple_Compare_pre; repeat' (first | exact Pre.none | exact Pre.tt rfl | exact Pre.some rfl | refine Pre.l ?_ | refine Pre.r ?_ | refine Pre.br (f := fun (p : Int) => ((AV.int IntKind.i64 p) : AV)) ?_ ?_ | refine Pre.brt (f := fun (p : Int) => ((AV.int IntKind.i64 p) : AV)) ?_ ?_)
noncomputable def tuple_Compare_o : List AV → Option (Bool × AV)
  | [AV.list (3 : Nat) a, AV.list (3 : Nat) b] => some (tuple_Compare_pre a b, (AV.int IntKind.i64 (tuple_Compare a b)))
  | _ => none
theorem tuple_Compare_c : OcOk Tryd.prog ITryd 10 tuple_Compare_o := fun xs r h => by
  unfold tuple_Compare_o at h; split at h
  · simp only [Option.some.injEq, Prod.mk.injEq] at h; obtain ⟨h1, rfl⟩ := h
    exact good_pin (p := tuple_Compare_E0.pin) (good_XF mxTryd (inv0Ok Tryd.prog _) rfl tuple_Compare_E0_ok Tryd.func10 rfl (by kernel_rfl) tuple_Compare_E0_lk10 (Pre.get (tuple_Compare_x _ _) h1))
  · simp at h


noncomputable def EL1_8 : Env := EL1_7.with 10 tuple_Compare_o

theorem EL1_8_ok : OrcOk Tryd.prog ITryd EL1_8 := EL1_7_ok.with tuple_Compare_c

/-- The environment of bitemporal/bitemporalref08.Compare: its loops so far. -/

noncomputable def ref08_Compare_E0 : Env := EL1_8.fn 41 0 (lsOf []) (lpsOf [])

theorem ref08_Compare_E0_ok : OrcOk Tryd.prog (ITryd.at 0) ref08_Compare_E0 := EL1_8_ok.fn

theorem ref08_Compare_E0_lk11_0 : LoOk Tryd.prog (ITryd.at ref08_Compare_E0.pin) ref08_Compare_E0 (loopAt Tryd.f11 0) := loOk_nil (by kernel_rfl)

/- 15 nodes -/
noncomputable def ref08_Compare_l0_step (a : List AV) (b : List AV) : (Int) → Option ((Int) ⊕ (Bool × (Int) × (Unit))) := fun (i) => br (decide (i < (↑a.length : Int))) (br (decide (i < (↑b.length : Int))) (br (decide ((0 : Int) ≤ i) && decide (i < (↑a.length : Int))) (br (decide (i.toNat < a.length) && ((a.getD i.toNat AV.top).cells.length == (3 : Nat) && hasShs [Sh.int IntKind.i64, Sh.int IntKind.i64, Sh.str] (a.getD i.toNat AV.top).cells (0 : Nat))) (br (decide ((0 : Int) ≤ i) && decide (i < (↑b.length : Int))) (br (decide (i.toNat < b.length) && ((b.getD i.toNat AV.top).cells.length == (3 : Nat) && hasShs [Sh.int IntKind.i64, Sh.int IntKind.i64, Sh.str] (b.getD i.toNat AV.top).cells (0 : Nat))) (br (ref07_Compare ((a.getD i.toNat AV.top).cells.getD (0 : Nat) AV.top).toInt ((a.getD i.toNat AV.top).cells.getD (1 : Nat) AV.top).toInt ((a.getD i.toNat AV.top).cells.getD (2 : Nat) AV.top).toStr ((b.getD i.toNat AV.top).cells.getD (0 : Nat) AV.top).toInt ((b.getD i.toNat AV.top).cells.getD (1 : Nat) AV.top).toInt ((b.getD i.toNat AV.top).cells.getD (2 : Nat) AV.top).toStr != (0 : Int)) (some (.inr (true, (ref07_Compare ((a.getD i.toNat AV.top).cells.getD (0 : Nat) AV.top).toInt ((a.getD i.toNat AV.top).cells.getD (1 : Nat) AV.top).toInt ((a.getD i.toNat AV.top).cells.getD (2 : Nat) AV.top).toStr ((b.getD i.toNat AV.top).cells.getD (0 : Nat) AV.top).toInt ((b.getD i.toNat AV.top).cells.getD (1 : Nat) AV.top).toInt ((b.getD i.toNat AV.top).cells.getD (2 : Nat) AV.top).toStr), ()))) (some (.inl (IntKind.i64.wrap (i + (1 : Int)))))) (none)) (none)) (none)) (none)) (some (.inr (false, 0, ())))) (some (.inr (false, 0, ())))
noncomputable def ref08_Compare_l0_L (a : List AV) (b : List AV) : (Int) → List AV × List Box := fun (i) => ([AV.list (3 : Nat) a, AV.list (3 : Nat) b, AV.int IntKind.i64 i], [])
noncomputable def ref08_Compare_l0_out (a : List AV) (b : List AV) : (Bool × (Int) × (Unit)) → LR := fun p => (.node p.1 (.leaf (Exit.ret) [AV.list (3 : Nat) a, AV.list (3 : Nat) b, AV.int IntKind.i64 p.2.1] []) (.leaf (Exit.exit (0 : Nat)) [AV.list (3 : Nat) a, AV.list (3 : Nat) b, AV.top] []))
theorem ref08_Compare_l0_r (a : List AV) (b : List AV) (i : Int) : Enc (encR (ref08_Compare_l0_L a b) (ref08_Compare_l0_out a b)) (ref08_Compare_l0_step a b (i)) (XR Tryd.prog ref08_Compare_E0 [0, 1, 5] [0, 1, 4] [] (loopAt Tryd.f11 0) [AV.list (3 : Nat) a, AV.list (3 : Nat) b, AV.int IntKind.i64 i] []) := by
  have h : XR Tryd.prog ref08_Compare_E0 [0, 1, 5] [0, 1, 4] [] (loopAt Tryd.f11 0) [AV.list (3 : Nat) a, AV.list (3 : Nat) b, AV.int IntKind.i64 i] [] = br (decide (i < (↑a.length : Int))) (br (decide (i < (↑b.length : Int))) (br (decide ((0 : Int) ≤ i) && decide (i < (↑a.length : Int))) (br (decide (i.toNat < a.length) && ((a.getD i.toNat AV.top).cells.length == (3 : Nat) && hasShs [Sh.int IntKind.i64, Sh.int IntKind.i64, Sh.str] (a.getD i.toNat AV.top).cells (0 : Nat))) (br (decide ((0 : Int) ≤ i) && decide (i < (↑b.length : Int))) (br (decide (i.toNat < b.length) && ((b.getD i.toNat AV.top).cells.length == (3 : Nat) && hasShs [Sh.int IntKind.i64, Sh.int IntKind.i64, Sh.str] (b.getD i.toNat AV.top).cells (0 : Nat))) (br (ref07_Compare ((a.getD i.toNat AV.top).cells.getD (0 : Nat) AV.top).toInt ((a.getD i.toNat AV.top).cells.getD (1 : Nat) AV.top).toInt ((a.getD i.toNat AV.top).cells.getD (2 : Nat) AV.top).toStr ((b.getD i.toNat AV.top).cells.getD (0 : Nat) AV.top).toInt ((b.getD i.toNat AV.top).cells.getD (1 : Nat) AV.top).toInt ((b.getD i.toNat AV.top).cells.getD (2 : Nat) AV.top).toStr != (0 : Int)) (some (Exit.ret, [AV.list (3 : Nat) a, AV.list (3 : Nat) b, AV.int IntKind.i64 (ref07_Compare ((a.getD i.toNat AV.top).cells.getD (0 : Nat) AV.top).toInt ((a.getD i.toNat AV.top).cells.getD (1 : Nat) AV.top).toInt ((a.getD i.toNat AV.top).cells.getD (2 : Nat) AV.top).toStr ((b.getD i.toNat AV.top).cells.getD (0 : Nat) AV.top).toInt ((b.getD i.toNat AV.top).cells.getD (1 : Nat) AV.top).toInt ((b.getD i.toNat AV.top).cells.getD (2 : Nat) AV.top).toStr)], [])) (some (Exit.normal, [AV.list (3 : Nat) a, AV.list (3 : Nat) b, AV.int IntKind.i64 (IntKind.i64.wrap (i + (1 : Int)))], []))) none) none) none) none) (some (Exit.exit (0 : Nat), [AV.list (3 : Nat) a, AV.list (3 : Nat) b, AV.top], []))) (some (Exit.exit (0 : Nat), [AV.list (3 : Nat) a, AV.list (3 : Nat) b, AV.top], [])) := by kernel_rfl
  rw [h]; unfold ref08_Compare_l0_step; repeat' (first | exact Enc.none | exact Enc.some rfl | refine Enc.br ?_ ?_)
noncomputable def ref08_Compare_l0_lp : Lp := ⟨[0, 1, 5], [0, 1, 4], [], fun vals H => match vals, H with
  | [AV.list (3 : Nat) a, AV.list (3 : Nat) b, AV.int IntKind.i64 i], [] => some ((Iter (ref08_Compare_l0_step a b) (i)).isSome, ref08_Compare_l0_out a b ((Iter (ref08_Compare_l0_step a b) (i)).getD (false, 0, ())))
  | _, _ => none⟩
theorem ref08_Compare_l0_lok : LoopOk Tryd.prog (ITryd.at ref08_Compare_E0.pin) ref08_Compare_E0.nt (loopAt Tryd.f11 0) ref08_Compare_l0_lp := fun vals H r h => by
  unfold ref08_Compare_l0_lp at h; dsimp only at h; split at h
  · simp only [Option.some.injEq, Prod.mk.injEq] at h; obtain ⟨h1, rfl⟩ := h
    obtain ⟨q, hq⟩ := Option.isSome_iff_exists.1 h1
    rw [hq]
    exact loop_of_XR mxTryd (inv0Ok Tryd.prog _) rfl ref08_Compare_E0_ok ref08_Compare_E0_lk11_0 (ref08_Compare_l0_L _ _) (ref08_Compare_l0_out _ _) (fun p => by simp only [ref08_Compare_l0_out, LR.eval]; first | (simp; done) | (repeat' split <;> simp)) (fun s => ref08_Compare_l0_r _ _ _) hq
  · simp at h


/-- The environment of bitemporal/bitemporalref08.Compare: its loops so far. -/

noncomputable def ref08_Compare_E1 : Env := EL1_8.fn 41 0 (lsOf []) (lpsOf [(2, ref08_Compare_l0_lp)])

theorem ref08_Compare_E1_ok : OrcOk Tryd.prog (ITryd.at 0) ref08_Compare_E1 := EL1_8_ok.fn

theorem ref08_Compare_E1_lk11 : LoOk Tryd.prog (ITryd.at ref08_Compare_E1.pin) ref08_Compare_E1 (Tryd.f11.body.getD .skip) := loOk_all (ls := [loopAt Tryd.f11 0]) (by kernel_rfl) (fun l hl lp hs => by
  simp only [List.mem_cons, List.not_mem_nil, or_false] at hl
  rcases hl with rfl
  · rw [show ref08_Compare_E1.lp (codeId (loopAt Tryd.f11 0)) = some ref08_Compare_l0_lp by kernel_rfl] at hs
    simp only [Option.some.injEq] at hs; subst hs; exact ref08_Compare_l0_lok)

/- 9 nodes -/
noncomputable def ref08_Compare (a : List AV) (b : List AV) : Int := (br (((Iter (ref08_Compare_l0_step a b) (0 : Int)).getD (false, (0 : Int), ())).fst) ((((Iter (ref08_Compare_l0_step a b) (0 : Int)).getD (false, (0 : Int), ())).snd.fst)) (br (decide ((↑a.length : Int) < (↑b.length : Int))) (((-1 : Int))) (br (decide ((↑a.length : Int) > (↑b.length : Int))) (((1 : Int))) (((0 : Int))))))
noncomputable def ref08_Compare_pre (a : List AV) (b : List AV) : Bool := br ((Iter (ref08_Compare_l0_step a b) (0 : Int)).isSome) (true) (false)
theorem ref08_Compare_x (a : List AV) (b : List AV) : Pre (ref08_Compare_pre a b) (XF Tryd.prog ref08_Compare_E1 Tryd.f11 (Tryd.f11.body.getD .skip) [AV.list (3 : Nat) a, AV.list (3 : Nat) b]) (AV.int IntKind.i64 (ref08_Compare a b)) := by
  have h : XF Tryd.prog ref08_Compare_E1 Tryd.f11 (Tryd.f11.body.getD .skip) [AV.list (3 : Nat) a, AV.list (3 : Nat) b] = br (Iter (ref08_Compare_l0_step a b) (0 : Int)).isSome (br ((Iter (ref08_Compare_l0_step a b) (0 : Int)).getD (false, (0 : Int), ())).fst (some (AV.int IntKind.i64 ((Iter (ref08_Compare_l0_step a b) (0 : Int)).getD (false, (0 : Int), ())).snd.fst)) (br (decide ((↑a.length : Int) < (↑b.length : Int))) (some (AV.int IntKind.i64 (-1 : Int))) (br (decide ((↑a.length : Int) > (↑b.length : Int))) (some (AV.int IntKind.i64 (1 : Int))) (some (AV.int IntKind.i64 (0 : Int)))))) none := by kernel_rfl
  rw [h]; unfold ref08_Compare ref08_Compare_pre; repeat' (first | exact Pre.none | exact Pre.tt rfl | exact Pre.some rfl | refine Pre.l ?_ | refine Pre.r ?_ | refine Pre.br (f := fun (p : Int) => ((AV.int IntKind.i64 p) : AV)) ?_ ?_ | refine Pre.brt (f := fun (p : Int) => ((AV.int IntKind.i64 p) : AV)) ?_ ?_)
noncomputable def ref08_Compare_o : List AV → Option (Bool × AV)
  | [AV.list (3 : Nat) a, AV.list (3 : Nat) b] => some (ref08_Compare_pre a b, (AV.int IntKind.i64 (ref08_Compare a b)))
  | _ => none
theorem ref08_Compare_c : OcOk Tryd.prog ITryd 11 ref08_Compare_o := fun xs r h => by
  unfold ref08_Compare_o at h; split at h
  · simp only [Option.some.injEq, Prod.mk.injEq] at h; obtain ⟨h1, rfl⟩ := h
    exact good_pin (p := ref08_Compare_E1.pin) (good_XF mxTryd (inv0Ok Tryd.prog _) rfl ref08_Compare_E1_ok Tryd.func11 rfl (by kernel_rfl) ref08_Compare_E1_lk11 (Pre.get (ref08_Compare_x _ _) h1))
  · simp at h


noncomputable def EL1_9 : Env := EL1_8.with 11 ref08_Compare_o

theorem EL1_9_ok : OrcOk Tryd.prog ITryd EL1_9 := EL1_8_ok.with ref08_Compare_c

/-- The environment of bitemporal/tuple.Equal: its loops so far. -/

noncomputable def tuple_Equal_E0 : Env := EL1_9.fn 9 0 (lsOf []) (lpsOf [])

theorem tuple_Equal_E0_ok : OrcOk Tryd.prog (ITryd.at 0) tuple_Equal_E0 := EL1_9_ok.fn

theorem tuple_Equal_E0_lk12 : LoOk Tryd.prog (ITryd.at tuple_Equal_E0.pin) tuple_Equal_E0 (Tryd.f12.body.getD .skip) := loOk_nil (by kernel_rfl)

/- 3 nodes -/
noncomputable def tuple_Equal (a : List AV) (b : List AV) : Bool := ((tuple_Compare a b == (0 : Int)))
noncomputable def tuple_Equal_pre (a : List AV) (b : List AV) : Bool := br (tuple_Compare_pre a b) (true) (false)
theorem tuple_Equal_x (a : List AV) (b : List AV) : Pre (tuple_Equal_pre a b) (XF Tryd.prog tuple_Equal_E0 Tryd.f12 (Tryd.f12.body.getD .skip) [AV.list (3 : Nat) a, AV.list (3 : Nat) b]) (AV.bool (tuple_Equal a b)) := by
  have h : XF Tryd.prog tuple_Equal_E0 Tryd.f12 (Tryd.f12.body.getD .skip) [AV.list (3 : Nat) a, AV.list (3 : Nat) b] = br (tuple_Compare_pre a b) (some (AV.bool (tuple_Compare a b == (0 : Int)))) none := by kernel_rfl
  rw [h]; unfold tuple_Equal tuple_Equal_pre; repeat' (first | exact Pre.none | exact Pre.tt rfl | exact Pre.some rfl | refine Pre.l ?_ | refine Pre.r ?_ | refine Pre.br (f := fun (p : Bool) => ((AV.bool p) : AV)) ?_ ?_ | refine Pre.brt (f := fun (p : Bool) => ((AV.bool p) : AV)) ?_ ?_)
noncomputable def tuple_Equal_o : List AV → Option (Bool × AV)
  | [AV.list (3 : Nat) a, AV.list (3 : Nat) b] => some (tuple_Equal_pre a b, (AV.bool (tuple_Equal a b)))
  | _ => none
theorem tuple_Equal_c : OcOk Tryd.prog ITryd 12 tuple_Equal_o := fun xs r h => by
  unfold tuple_Equal_o at h; split at h
  · simp only [Option.some.injEq, Prod.mk.injEq] at h; obtain ⟨h1, rfl⟩ := h
    exact good_pin (p := tuple_Equal_E0.pin) (good_XF mxTryd (inv0Ok Tryd.prog _) rfl tuple_Equal_E0_ok Tryd.func12 rfl (by kernel_rfl) tuple_Equal_E0_lk12 (Pre.get (tuple_Equal_x _ _) h1))
  · simp at h


noncomputable def EL1_10 : Env := EL1_9.with 12 tuple_Equal_o

theorem EL1_10_ok : OrcOk Tryd.prog ITryd EL1_10 := EL1_9_ok.with tuple_Equal_c

/-- The environment of bitemporal/bitemporalref08.Equal: its loops so far. -/

noncomputable def ref08_Equal_E0 : Env := EL1_10.fn 9 0 (lsOf []) (lpsOf [])

theorem ref08_Equal_E0_ok : OrcOk Tryd.prog (ITryd.at 0) ref08_Equal_E0 := EL1_10_ok.fn

theorem ref08_Equal_E0_lk13 : LoOk Tryd.prog (ITryd.at ref08_Equal_E0.pin) ref08_Equal_E0 (Tryd.f13.body.getD .skip) := loOk_nil (by kernel_rfl)

/- 3 nodes -/
noncomputable def ref08_Equal (a : List AV) (b : List AV) : Bool := ((ref08_Compare a b == (0 : Int)))
noncomputable def ref08_Equal_pre (a : List AV) (b : List AV) : Bool := br (ref08_Compare_pre a b) (true) (false)
theorem ref08_Equal_x (a : List AV) (b : List AV) : Pre (ref08_Equal_pre a b) (XF Tryd.prog ref08_Equal_E0 Tryd.f13 (Tryd.f13.body.getD .skip) [AV.list (3 : Nat) a, AV.list (3 : Nat) b]) (AV.bool (ref08_Equal a b)) := by
  have h : XF Tryd.prog ref08_Equal_E0 Tryd.f13 (Tryd.f13.body.getD .skip) [AV.list (3 : Nat) a, AV.list (3 : Nat) b] = br (ref08_Compare_pre a b) (some (AV.bool (ref08_Compare a b == (0 : Int)))) none := by kernel_rfl
  rw [h]; unfold ref08_Equal ref08_Equal_pre; repeat' (first | exact Pre.none | exact Pre.tt rfl | exact Pre.some rfl | refine Pre.l ?_ | refine Pre.r ?_ | refine Pre.br (f := fun (p : Bool) => ((AV.bool p) : AV)) ?_ ?_ | refine Pre.brt (f := fun (p : Bool) => ((AV.bool p) : AV)) ?_ ?_)
noncomputable def ref08_Equal_o : List AV → Option (Bool × AV)
  | [AV.list (3 : Nat) a, AV.list (3 : Nat) b] => some (ref08_Equal_pre a b, (AV.bool (ref08_Equal a b)))
  | _ => none
theorem ref08_Equal_c : OcOk Tryd.prog ITryd 13 ref08_Equal_o := fun xs r h => by
  unfold ref08_Equal_o at h; split at h
  · simp only [Option.some.injEq, Prod.mk.injEq] at h; obtain ⟨h1, rfl⟩ := h
    exact good_pin (p := ref08_Equal_E0.pin) (good_XF mxTryd (inv0Ok Tryd.prog _) rfl ref08_Equal_E0_ok Tryd.func13 rfl (by kernel_rfl) ref08_Equal_E0_lk13 (Pre.get (ref08_Equal_x _ _) h1))
  · simp at h


noncomputable def EL1_11 : Env := EL1_10.with 13 ref08_Equal_o

theorem EL1_11_ok : OrcOk Tryd.prog ITryd EL1_11 := EL1_10_ok.with ref08_Equal_c

/-- The environment of bitemporal/value.Null: its loops so far. -/

noncomputable def value_Null_E0 : Env := EL1_11.fn 2 0 (lsOf []) (lpsOf [])

theorem value_Null_E0_ok : OrcOk Tryd.prog (ITryd.at 0) value_Null_E0 := EL1_11_ok.fn

theorem value_Null_E0_lk36 : LoOk Tryd.prog (ITryd.at value_Null_E0.pin) value_Null_E0 (Tryd.f36.body.getD .skip) := loOk_nil (by kernel_rfl)

/- 1 nodes -/
noncomputable def value_Null : Int × Int × List UInt8 := (((0 : Int), (0 : Int), []))
noncomputable def value_Null_pre : Bool := true
theorem value_Null_x : Pre (value_Null_pre) (XF Tryd.prog value_Null_E0 Tryd.f36 (Tryd.f36.body.getD .skip) []) (AV.agg [AV.int IntKind.i64 value_Null.1, AV.int IntKind.i64 value_Null.2.1, AV.str value_Null.2.2]) := by
  have h : XF Tryd.prog value_Null_E0 Tryd.f36 (Tryd.f36.body.getD .skip) [] = some (AV.agg [AV.int IntKind.i64 (0 : Int), AV.int IntKind.i64 (0 : Int), AV.str []]) := by kernel_rfl
  rw [h]; unfold value_Null value_Null_pre; repeat' (first | exact Pre.none | exact Pre.tt rfl | exact Pre.some rfl | refine Pre.l ?_ | refine Pre.r ?_ | refine Pre.br (f := fun (p : Int × Int × List UInt8) => ((AV.agg [AV.int IntKind.i64 p.1, AV.int IntKind.i64 p.2.1, AV.str p.2.2]) : AV)) ?_ ?_ | refine Pre.brt (f := fun (p : Int × Int × List UInt8) => ((AV.agg [AV.int IntKind.i64 p.1, AV.int IntKind.i64 p.2.1, AV.str p.2.2]) : AV)) ?_ ?_)
noncomputable def value_Null_o : List AV → Option (Bool × AV)
  | [] => some (value_Null_pre, (AV.agg [AV.int IntKind.i64 value_Null.1, AV.int IntKind.i64 value_Null.2.1, AV.str value_Null.2.2]))
  | _ => none
theorem value_Null_c : OcOk Tryd.prog ITryd 36 value_Null_o := fun xs r h => by
  unfold value_Null_o at h; split at h
  · simp only [Option.some.injEq, Prod.mk.injEq] at h; obtain ⟨h1, rfl⟩ := h
    exact good_pin (p := value_Null_E0.pin) (good_XF mxTryd (inv0Ok Tryd.prog _) rfl value_Null_E0_ok Tryd.func36 rfl (by kernel_rfl) value_Null_E0_lk36 (Pre.get (value_Null_x) h1))
  · simp at h


noncomputable def EL1_12 : Env := EL1_11.with 36 value_Null_o

theorem EL1_12_ok : OrcOk Tryd.prog ITryd EL1_12 := EL1_11_ok.with value_Null_c

/-- The environment of bitemporal/tuple.at: its loops so far. -/

noncomputable def tuple_at_E0 : Env := EL1_12.fn 18 0 (lsOf []) (lpsOf [])

theorem tuple_at_E0_ok : OrcOk Tryd.prog (ITryd.at 0) tuple_at_E0 := EL1_12_ok.fn

theorem tuple_at_E0_lk39 : LoOk Tryd.prog (ITryd.at tuple_at_E0.pin) tuple_at_E0 (Tryd.f39.body.getD .skip) := loOk_nil (by kernel_rfl)

/- 9 nodes -/
noncomputable def tuple_at (row : List AV) (i : Int) : Int × Int × List UInt8 := (br (decide (i < (0 : Int))) (((0 : Int), (0 : Int), [])) (br (decide (i ≥ (↑row.length : Int))) (((0 : Int), (0 : Int), [])) ((((row.getD i.toNat AV.top).cells.getD (0 : Nat) AV.top).toInt, ((row.getD i.toNat AV.top).cells.getD (1 : Nat) AV.top).toInt, ((row.getD i.toNat AV.top).cells.getD (2 : Nat) AV.top).toStr))))
noncomputable def tuple_at_pre (row : List AV) (i : Int) : Bool := br (decide (i < (0 : Int))) (true) (br (decide (i ≥ (↑row.length : Int))) (true) (br (decide ((0 : Int) ≤ i) && decide (i < (↑row.length : Int))) (br (decide (i.toNat < row.length) && ((row.getD i.toNat AV.top).cells.length == (3 : Nat) && hasShs [Sh.int IntKind.i64, Sh.int IntKind.i64, Sh.str] (row.getD i.toNat AV.top).cells (0 : Nat))) (true) (false)) (false)))
theorem tuple_at_x (row : List AV) (i : Int) : Pre (tuple_at_pre row i) (XF Tryd.prog tuple_at_E0 Tryd.f39 (Tryd.f39.body.getD .skip) [AV.list (3 : Nat) row, AV.int IntKind.i64 i]) (AV.agg [AV.int IntKind.i64 (tuple_at row i).1, AV.int IntKind.i64 (tuple_at row i).2.1, AV.str (tuple_at row i).2.2]) := by
  have h : XF Tryd.prog tuple_at_E0 Tryd.f39 (Tryd.f39.body.getD .skip) [AV.list (3 : Nat) row, AV.int IntKind.i64 i] = br (decide (i < (0 : Int))) (some (AV.agg [AV.int IntKind.i64 (0 : Int), AV.int IntKind.i64 (0 : Int), AV.str []])) (br (decide (i ≥ (↑row.length : Int))) (some (AV.agg [AV.int IntKind.i64 (0 : Int), AV.int IntKind.i64 (0 : Int), AV.str []])) (br (decide ((0 : Int) ≤ i) && decide (i < (↑row.length : Int))) (br (decide (i.toNat < row.length) && ((row.getD i.toNat AV.top).cells.length == (3 : Nat) && hasShs [Sh.int IntKind.i64, Sh.int IntKind.i64, Sh.str] (row.getD i.toNat AV.top).cells (0 : Nat))) (some (AV.agg [AV.int IntKind.i64 ((row.getD i.toNat AV.top).cells.getD (0 : Nat) AV.top).toInt, AV.int IntKind.i64 ((row.getD i.toNat AV.top).cells.getD (1 : Nat) AV.top).toInt, AV.str ((row.getD i.toNat AV.top).cells.getD (2 : Nat) AV.top).toStr])) none) none)) := by kernel_rfl
  rw [h]; unfold tuple_at tuple_at_pre; repeat' (first | exact Pre.none | exact Pre.tt rfl | exact Pre.some rfl | refine Pre.l ?_ | refine Pre.r ?_ | refine Pre.br (f := fun (p : Int × Int × List UInt8) => ((AV.agg [AV.int IntKind.i64 p.1, AV.int IntKind.i64 p.2.1, AV.str p.2.2]) : AV)) ?_ ?_ | refine Pre.brt (f := fun (p : Int × Int × List UInt8) => ((AV.agg [AV.int IntKind.i64 p.1, AV.int IntKind.i64 p.2.1, AV.str p.2.2]) : AV)) ?_ ?_)
noncomputable def tuple_at_o : List AV → Option (Bool × AV)
  | [AV.list (3 : Nat) row, AV.int IntKind.i64 i] => some (tuple_at_pre row i, (AV.agg [AV.int IntKind.i64 (tuple_at row i).1, AV.int IntKind.i64 (tuple_at row i).2.1, AV.str (tuple_at row i).2.2]))
  | _ => none
theorem tuple_at_c : OcOk Tryd.prog ITryd 39 tuple_at_o := fun xs r h => by
  unfold tuple_at_o at h; split at h
  · simp only [Option.some.injEq, Prod.mk.injEq] at h; obtain ⟨h1, rfl⟩ := h
    exact good_pin (p := tuple_at_E0.pin) (good_XF mxTryd (inv0Ok Tryd.prog _) rfl tuple_at_E0_ok Tryd.func39 rfl (by kernel_rfl) tuple_at_E0_lk39 (Pre.get (tuple_at_x _ _) h1))
  · simp at h


noncomputable def EL1_13 : Env := EL1_12.with 39 tuple_at_o

theorem EL1_13_ok : OrcOk Tryd.prog ITryd EL1_13 := EL1_12_ok.with tuple_at_c

/-- The environment of bitemporal/bitemporalref07.Null: its loops so far. -/

noncomputable def ref07_Null_E0 : Env := EL1_13.fn 2 0 (lsOf []) (lpsOf [])

theorem ref07_Null_E0_ok : OrcOk Tryd.prog (ITryd.at 0) ref07_Null_E0 := EL1_13_ok.fn

theorem ref07_Null_E0_lk63 : LoOk Tryd.prog (ITryd.at ref07_Null_E0.pin) ref07_Null_E0 (Tryd.f63.body.getD .skip) := loOk_nil (by kernel_rfl)

/- 1 nodes -/
noncomputable def ref07_Null : Int × Int × List UInt8 := (((0 : Int), (0 : Int), []))
noncomputable def ref07_Null_pre : Bool := true
theorem ref07_Null_x : Pre (ref07_Null_pre) (XF Tryd.prog ref07_Null_E0 Tryd.f63 (Tryd.f63.body.getD .skip) []) (AV.agg [AV.int IntKind.i64 ref07_Null.1, AV.int IntKind.i64 ref07_Null.2.1, AV.str ref07_Null.2.2]) := by
  have h : XF Tryd.prog ref07_Null_E0 Tryd.f63 (Tryd.f63.body.getD .skip) [] = some (AV.agg [AV.int IntKind.i64 (0 : Int), AV.int IntKind.i64 (0 : Int), AV.str []]) := by kernel_rfl
  rw [h]; unfold ref07_Null ref07_Null_pre; repeat' (first | exact Pre.none | exact Pre.tt rfl | exact Pre.some rfl | refine Pre.l ?_ | refine Pre.r ?_ | refine Pre.br (f := fun (p : Int × Int × List UInt8) => ((AV.agg [AV.int IntKind.i64 p.1, AV.int IntKind.i64 p.2.1, AV.str p.2.2]) : AV)) ?_ ?_ | refine Pre.brt (f := fun (p : Int × Int × List UInt8) => ((AV.agg [AV.int IntKind.i64 p.1, AV.int IntKind.i64 p.2.1, AV.str p.2.2]) : AV)) ?_ ?_)
noncomputable def ref07_Null_o : List AV → Option (Bool × AV)
  | [] => some (ref07_Null_pre, (AV.agg [AV.int IntKind.i64 ref07_Null.1, AV.int IntKind.i64 ref07_Null.2.1, AV.str ref07_Null.2.2]))
  | _ => none
theorem ref07_Null_c : OcOk Tryd.prog ITryd 63 ref07_Null_o := fun xs r h => by
  unfold ref07_Null_o at h; split at h
  · simp only [Option.some.injEq, Prod.mk.injEq] at h; obtain ⟨h1, rfl⟩ := h
    exact good_pin (p := ref07_Null_E0.pin) (good_XF mxTryd (inv0Ok Tryd.prog _) rfl ref07_Null_E0_ok Tryd.func63 rfl (by kernel_rfl) ref07_Null_E0_lk63 (Pre.get (ref07_Null_x) h1))
  · simp at h


noncomputable def EL1_14 : Env := EL1_13.with 63 ref07_Null_o

theorem EL1_14_ok : OrcOk Tryd.prog ITryd EL1_14 := EL1_13_ok.with ref07_Null_c

/-- The environment of bitemporal/bitemporalref08.At: its loops so far. -/

noncomputable def ref08_At_E0 : Env := EL1_14.fn 18 0 (lsOf []) (lpsOf [])

theorem ref08_At_E0_ok : OrcOk Tryd.prog (ITryd.at 0) ref08_At_E0 := EL1_14_ok.fn

theorem ref08_At_E0_lk72 : LoOk Tryd.prog (ITryd.at ref08_At_E0.pin) ref08_At_E0 (Tryd.f72.body.getD .skip) := loOk_nil (by kernel_rfl)

/- 9 nodes -/
noncomputable def ref08_At (row : List AV) (i : Int) : Int × Int × List UInt8 := (br (decide (i < (0 : Int))) (((0 : Int), (0 : Int), [])) (br (decide (i ≥ (↑row.length : Int))) (((0 : Int), (0 : Int), [])) ((((row.getD i.toNat AV.top).cells.getD (0 : Nat) AV.top).toInt, ((row.getD i.toNat AV.top).cells.getD (1 : Nat) AV.top).toInt, ((row.getD i.toNat AV.top).cells.getD (2 : Nat) AV.top).toStr))))
noncomputable def ref08_At_pre (row : List AV) (i : Int) : Bool := br (decide (i < (0 : Int))) (true) (br (decide (i ≥ (↑row.length : Int))) (true) (br (decide ((0 : Int) ≤ i) && decide (i < (↑row.length : Int))) (br (decide (i.toNat < row.length) && ((row.getD i.toNat AV.top).cells.length == (3 : Nat) && hasShs [Sh.int IntKind.i64, Sh.int IntKind.i64, Sh.str] (row.getD i.toNat AV.top).cells (0 : Nat))) (true) (false)) (false)))
theorem ref08_At_x (row : List AV) (i : Int) : Pre (ref08_At_pre row i) (XF Tryd.prog ref08_At_E0 Tryd.f72 (Tryd.f72.body.getD .skip) [AV.list (3 : Nat) row, AV.int IntKind.i64 i]) (AV.agg [AV.int IntKind.i64 (ref08_At row i).1, AV.int IntKind.i64 (ref08_At row i).2.1, AV.str (ref08_At row i).2.2]) := by
  have h : XF Tryd.prog ref08_At_E0 Tryd.f72 (Tryd.f72.body.getD .skip) [AV.list (3 : Nat) row, AV.int IntKind.i64 i] = br (decide (i < (0 : Int))) (some (AV.agg [AV.int IntKind.i64 (0 : Int), AV.int IntKind.i64 (0 : Int), AV.str []])) (br (decide (i ≥ (↑row.length : Int))) (some (AV.agg [AV.int IntKind.i64 (0 : Int), AV.int IntKind.i64 (0 : Int), AV.str []])) (br (decide ((0 : Int) ≤ i) && decide (i < (↑row.length : Int))) (br (decide (i.toNat < row.length) && ((row.getD i.toNat AV.top).cells.length == (3 : Nat) && hasShs [Sh.int IntKind.i64, Sh.int IntKind.i64, Sh.str] (row.getD i.toNat AV.top).cells (0 : Nat))) (some (AV.agg [AV.int IntKind.i64 ((row.getD i.toNat AV.top).cells.getD (0 : Nat) AV.top).toInt, AV.int IntKind.i64 ((row.getD i.toNat AV.top).cells.getD (1 : Nat) AV.top).toInt, AV.str ((row.getD i.toNat AV.top).cells.getD (2 : Nat) AV.top).toStr])) none) none)) := by kernel_rfl
  rw [h]; unfold ref08_At ref08_At_pre; repeat' (first | exact Pre.none | exact Pre.tt rfl | exact Pre.some rfl | refine Pre.l ?_ | refine Pre.r ?_ | refine Pre.br (f := fun (p : Int × Int × List UInt8) => ((AV.agg [AV.int IntKind.i64 p.1, AV.int IntKind.i64 p.2.1, AV.str p.2.2]) : AV)) ?_ ?_ | refine Pre.brt (f := fun (p : Int × Int × List UInt8) => ((AV.agg [AV.int IntKind.i64 p.1, AV.int IntKind.i64 p.2.1, AV.str p.2.2]) : AV)) ?_ ?_)
noncomputable def ref08_At_o : List AV → Option (Bool × AV)
  | [AV.list (3 : Nat) row, AV.int IntKind.i64 i] => some (ref08_At_pre row i, (AV.agg [AV.int IntKind.i64 (ref08_At row i).1, AV.int IntKind.i64 (ref08_At row i).2.1, AV.str (ref08_At row i).2.2]))
  | _ => none
theorem ref08_At_c : OcOk Tryd.prog ITryd 72 ref08_At_o := fun xs r h => by
  unfold ref08_At_o at h; split at h
  · simp only [Option.some.injEq, Prod.mk.injEq] at h; obtain ⟨h1, rfl⟩ := h
    exact good_pin (p := ref08_At_E0.pin) (good_XF mxTryd (inv0Ok Tryd.prog _) rfl ref08_At_E0_ok Tryd.func72 rfl (by kernel_rfl) ref08_At_E0_lk72 (Pre.get (ref08_At_x _ _) h1))
  · simp at h


noncomputable def EL1_15 : Env := EL1_14.with 72 ref08_At_o

theorem EL1_15_ok : OrcOk Tryd.prog ITryd EL1_15 := EL1_14_ok.with ref08_At_c

/-- The environment of bitemporal/tuple.Pick: its loops so far. -/

noncomputable def tuple_Pick_E0 : Env := EL1_15.fn 25 0 (lsOf []) (lpsOf [])

theorem tuple_Pick_E0_ok : OrcOk Tryd.prog (ITryd.at 0) tuple_Pick_E0 := EL1_15_ok.fn

theorem tuple_Pick_E0_lk26_0 : LoOk Tryd.prog (ITryd.at tuple_Pick_E0.pin) tuple_Pick_E0 (loopAt Tryd.f26 0) := loOk_nil (by kernel_rfl)

/- 11 nodes -/
noncomputable def tuple_Pick_l0_step (row : List AV) (t11 : List AV) (t12 : Int) : (Nat × Int × List AV) → Option ((Nat × Int × List AV) ⊕ (Nat × List AV)) := fun (out_n, t13, out_xs) => br (decide (t13 < t12)) (br (decide ((0 : Int) ≤ t13) && decide (t13 < (↑t11.length : Int))) (br (decide (t13.toNat < t11.length) && hasSh1 (Sh.int IntKind.i64) ((t11.getD t13.toNat AV.top).cells.getD (0 : Nat) AV.top)) (br (tuple_at_pre row ((t11.getD t13.toNat AV.top).cells.getD (0 : Nat) AV.top).toInt) (br (out_n == out_xs.length && (decide ((out_n + (1 : Nat)) * (32 : Nat) ≤ (140737488355328 : Nat)) && decide (out_n + (1 : Nat) ≤ (4611686018427387904 : Nat)))) (some (.inl (out_n + (1 : Nat), IntKind.i64.wrap (t13 + (1 : Int)), out_xs ++ [AV.agg [AV.int IntKind.i64 (tuple_at row ((t11.getD t13.toNat AV.top).cells.getD (0 : Nat) AV.top).toInt).fst, AV.int IntKind.i64 (tuple_at row ((t11.getD t13.toNat AV.top).cells.getD (0 : Nat) AV.top).toInt).snd.fst, AV.str (tuple_at row ((t11.getD t13.toNat AV.top).cells.getD (0 : Nat) AV.top).toInt).snd.snd]]))) (none)) (none)) (none)) (none)) (some (.inr (out_n, out_xs)))
noncomputable def tuple_Pick_l0_L (row : List AV) (t11 : List AV) (t12 : Int) : (Nat × Int × List AV) → List AV × List Box := fun (out_n, t13, out_xs) => ([AV.list (3 : Nat) row, AV.osl 0 0 0 out_n, AV.list (1 : Nat) t11, AV.int IntKind.i64 t12, AV.int IntKind.i64 t13], [⟨0, (3 : Nat), (33 : Nat), out_xs, false, true⟩])
noncomputable def tuple_Pick_l0_out (row : List AV) (t11 : List AV) (t12 : Int) : (Nat × List AV) → LR := fun p => (.leaf (Exit.exit (0 : Nat)) [AV.osl 0 0 0 p.1] [⟨0, (3 : Nat), (33 : Nat), p.2, false, true⟩])
theorem tuple_Pick_l0_r (row : List AV) (t11 : List AV) (t12 : Int) (out_n : Nat) (t13 : Int) (out_xs : List AV) : Enc (encR (tuple_Pick_l0_L row t11 t12) (tuple_Pick_l0_out row t11 t12)) (tuple_Pick_l0_step row t11 t12 (out_n, t13, out_xs)) (XR Tryd.prog tuple_Pick_E0 [0, 5, 11, 12, 13] [5] [(5, 3, 33)] (loopAt Tryd.f26 0) [AV.list (3 : Nat) row, AV.osl 0 0 0 out_n, AV.list (1 : Nat) t11, AV.int IntKind.i64 t12, AV.int IntKind.i64 t13] [⟨0, (3 : Nat), (33 : Nat), out_xs, false, true⟩]) := by
  have h : XR Tryd.prog tuple_Pick_E0 [0, 5, 11, 12, 13] [5] [(5, 3, 33)] (loopAt Tryd.f26 0) [AV.list (3 : Nat) row, AV.osl 0 0 0 out_n, AV.list (1 : Nat) t11, AV.int IntKind.i64 t12, AV.int IntKind.i64 t13] [⟨0, (3 : Nat), (33 : Nat), out_xs, false, true⟩] = br (decide (t13 < t12)) (br (decide ((0 : Int) ≤ t13) && decide (t13 < (↑t11.length : Int))) (br (decide (t13.toNat < t11.length) && hasSh1 (Sh.int IntKind.i64) ((t11.getD t13.toNat AV.top).cells.getD (0 : Nat) AV.top)) (br (tuple_at_pre row ((t11.getD t13.toNat AV.top).cells.getD (0 : Nat) AV.top).toInt) (br (out_n == out_xs.length && (decide ((out_n + (1 : Nat)) * (32 : Nat) ≤ (140737488355328 : Nat)) && decide (out_n + (1 : Nat) ≤ (4611686018427387904 : Nat)))) (some (Exit.normal, [AV.list (3 : Nat) row, AV.osl (0 : Nat) (0 : Nat) (0 : Nat) (out_n + (1 : Nat)), AV.list (1 : Nat) t11, AV.int IntKind.i64 t12, AV.int IntKind.i64 (IntKind.i64.wrap (t13 + (1 : Int)))], [{ ver := (0 : Nat), sz := (3 : Nat), ty := (33 : Nat), xs := out_xs ++ [AV.agg [AV.int IntKind.i64 (tuple_at row ((t11.getD t13.toNat AV.top).cells.getD (0 : Nat) AV.top).toInt).fst, AV.int IntKind.i64 (tuple_at row ((t11.getD t13.toNat AV.top).cells.getD (0 : Nat) AV.top).toInt).snd.fst, AV.str (tuple_at row ((t11.getD t13.toNat AV.top).cells.getD (0 : Nat) AV.top).toInt).snd.snd]], frz := false, pm := true }])) none) none) none) none) (some (Exit.exit (0 : Nat), [AV.osl (0 : Nat) (0 : Nat) (0 : Nat) out_n], [{ ver := (0 : Nat), sz := (3 : Nat), ty := (33 : Nat), xs := out_xs, frz := false, pm := true }])) := by kernel_rfl
  rw [h]; unfold tuple_Pick_l0_step; repeat' (first | exact Enc.none | exact Enc.some rfl | refine Enc.br ?_ ?_)
noncomputable def tuple_Pick_l0_lp : Lp := ⟨[0, 5, 11, 12, 13], [5], [(5, 3, 33)], fun vals H => match vals, H with
  | [AV.list (3 : Nat) row, AV.osl 0 0 0 out_n, AV.list (1 : Nat) t11, AV.int IntKind.i64 t12, AV.int IntKind.i64 t13], [⟨0, (3 : Nat), (33 : Nat), out_xs, false, true⟩] => some ((Iter (tuple_Pick_l0_step row t11 t12) (out_n, t13, out_xs)).isSome, tuple_Pick_l0_out row t11 t12 ((Iter (tuple_Pick_l0_step row t11 t12) (out_n, t13, out_xs)).getD (0, [])))
  | _, _ => none⟩
theorem tuple_Pick_l0_lok : LoopOk Tryd.prog (ITryd.at tuple_Pick_E0.pin) tuple_Pick_E0.nt (loopAt Tryd.f26 0) tuple_Pick_l0_lp := fun vals H r h => by
  unfold tuple_Pick_l0_lp at h; dsimp only at h; split at h
  · simp only [Option.some.injEq, Prod.mk.injEq] at h; obtain ⟨h1, rfl⟩ := h
    obtain ⟨q, hq⟩ := Option.isSome_iff_exists.1 h1
    rw [hq]
    exact loop_of_XR mxTryd (inv0Ok Tryd.prog _) rfl tuple_Pick_E0_ok tuple_Pick_E0_lk26_0 (tuple_Pick_l0_L _ _ _) (tuple_Pick_l0_out _ _ _) (fun p => by simp only [tuple_Pick_l0_out, LR.eval]; first | (simp; done) | (repeat' split <;> simp)) (fun s => tuple_Pick_l0_r _ _ _ _ _ _) hq
  · simp at h


/-- The environment of bitemporal/tuple.Pick: its loops so far. -/

noncomputable def tuple_Pick_E1 : Env := EL1_15.fn 25 0 (lsOf []) (lpsOf [(3, tuple_Pick_l0_lp)])

theorem tuple_Pick_E1_ok : OrcOk Tryd.prog (ITryd.at 0) tuple_Pick_E1 := EL1_15_ok.fn

theorem tuple_Pick_E1_lk26 : LoOk Tryd.prog (ITryd.at tuple_Pick_E1.pin) tuple_Pick_E1 (Tryd.f26.body.getD .skip) := loOk_all (ls := [loopAt Tryd.f26 0]) (by kernel_rfl) (fun l hl lp hs => by
  simp only [List.mem_cons, List.not_mem_nil, or_false] at hl
  rcases hl with rfl
  · rw [show tuple_Pick_E1.lp (codeId (loopAt Tryd.f26 0)) = some tuple_Pick_l0_lp by kernel_rfl] at hs
    simp only [Option.some.injEq] at hs; subst hs; exact tuple_Pick_l0_lok)

/- 7 nodes -/
noncomputable def tuple_Pick (row : List AV) (l : List AV) : List AV := ((List.take ((Iter (tuple_Pick_l0_step row l (↑l.length : Int)) ((0 : Nat), (0 : Int), [])).getD ((0 : Nat), [])).fst (List.drop (0 : Nat) ((Iter (tuple_Pick_l0_step row l (↑l.length : Int)) ((0 : Nat), (0 : Int), [])).getD ((0 : Nat), [])).snd)))
noncomputable def tuple_Pick_pre (row : List AV) (l : List AV) : Bool := br (decide ((32 : Int) * (↑l.length : Int) ≤ (281474976710656 : Int)) && decide ((↑l.length : Int) ≤ (4611686018427387904 : Int))) (br ((Iter (tuple_Pick_l0_step row l (↑l.length : Int)) ((0 : Nat), (0 : Int), [])).isSome) (br (decide ((0 : Nat) + ((Iter (tuple_Pick_l0_step row l (↑l.length : Int)) ((0 : Nat), (0 : Int), [])).getD ((0 : Nat), [])).fst ≤ ((Iter (tuple_Pick_l0_step row l (↑l.length : Int)) ((0 : Nat), (0 : Int), [])).getD ((0 : Nat), [])).snd.length) && true) (true) (false)) (false)) (false)
theorem tuple_Pick_x (row : List AV) (l : List AV) : Pre (tuple_Pick_pre row l) (XF Tryd.prog tuple_Pick_E1 Tryd.f26 (Tryd.f26.body.getD .skip) [AV.list (3 : Nat) row, AV.list (1 : Nat) l]) (AV.list (3 : Nat) (tuple_Pick row l)) := by
  have h : XF Tryd.prog tuple_Pick_E1 Tryd.f26 (Tryd.f26.body.getD .skip) [AV.list (3 : Nat) row, AV.list (1 : Nat) l] = br (decide ((32 : Int) * (↑l.length : Int) ≤ (281474976710656 : Int)) && decide ((↑l.length : Int) ≤ (4611686018427387904 : Int))) (br (Iter (tuple_Pick_l0_step row l (↑l.length : Int)) ((0 : Nat), (0 : Int), [])).isSome (br (decide ((0 : Nat) + ((Iter (tuple_Pick_l0_step row l (↑l.length : Int)) ((0 : Nat), (0 : Int), [])).getD ((0 : Nat), [])).fst ≤ ((Iter (tuple_Pick_l0_step row l (↑l.length : Int)) ((0 : Nat), (0 : Int), [])).getD ((0 : Nat), [])).snd.length) && true) (some (AV.list (3 : Nat) (List.take ((Iter (tuple_Pick_l0_step row l (↑l.length : Int)) ((0 : Nat), (0 : Int), [])).getD ((0 : Nat), [])).fst (List.drop (0 : Nat) ((Iter (tuple_Pick_l0_step row l (↑l.length : Int)) ((0 : Nat), (0 : Int), [])).getD ((0 : Nat), [])).snd)))) none) none) none := by kernel_rfl
  rw [h]; unfold tuple_Pick tuple_Pick_pre; repeat' (first | exact Pre.none | exact Pre.tt rfl | exact Pre.some rfl | refine Pre.l ?_ | refine Pre.r ?_ | refine Pre.br (f := fun (p : List AV) => ((AV.list (3 : Nat) p) : AV)) ?_ ?_ | refine Pre.brt (f := fun (p : List AV) => ((AV.list (3 : Nat) p) : AV)) ?_ ?_)
noncomputable def tuple_Pick_o : List AV → Option (Bool × AV)
  | [AV.list (3 : Nat) row, AV.list (1 : Nat) l] => some (tuple_Pick_pre row l, (AV.list (3 : Nat) (tuple_Pick row l)))
  | _ => none
theorem tuple_Pick_c : OcOk Tryd.prog ITryd 26 tuple_Pick_o := fun xs r h => by
  unfold tuple_Pick_o at h; split at h
  · simp only [Option.some.injEq, Prod.mk.injEq] at h; obtain ⟨h1, rfl⟩ := h
    exact good_pin (p := tuple_Pick_E1.pin) (good_XF mxTryd (inv0Ok Tryd.prog _) rfl tuple_Pick_E1_ok Tryd.func26 rfl (by kernel_rfl) tuple_Pick_E1_lk26 (Pre.get (tuple_Pick_x _ _) h1))
  · simp at h


noncomputable def EL1_16 : Env := EL1_15.with 26 tuple_Pick_o

theorem EL1_16_ok : OrcOk Tryd.prog ITryd EL1_16 := EL1_15_ok.with tuple_Pick_c

noncomputable abbrev EL1 : Env := EL1_16

theorem EL1_ok : OrcOk Tryd.prog ITryd EL1 := EL1_16_ok

end Go.Sim.M
