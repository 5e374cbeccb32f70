/- Functions of the program, as the executor found them: printed by program, checked by the kernel. -/
import Derived.Test.YtkoepgogaojgmaaDoorLib0
set_option linter.unusedVariables false
set_option linter.unusedSimpArgs false
set_option maxRecDepth 100000
namespace Go.Sim.M
open Go.RowKit Go.Proofs

/- 1 nodes -/
def value_Null : Int × Int × List UInt8 := ((0 : Int), (0 : Int), [])
theorem value_Null_x : XF Tryd.prog E0 Tryd.f12 (Tryd.f12.body.getD .skip) [] = some (.agg [.int .i64 value_Null.1, .int .i64 value_Null.2.1, .str value_Null.2.2]) :=
  (show _ = some (AV.agg [AV.int IntKind.i64 (0 : Int), AV.int IntKind.i64 (0 : Int), AV.str []]) by kernel_rfl).trans (by unfold value_Null; repeat' (first | rfl | refine br_map (f := fun (p : Int × Int × List UInt8) => some (.agg [.int .i64 p.1, .int .i64 p.2.1, .str p.2.2] : AV)) ?_ ?_))
def value_Null_o : List AV → Option (Bool × AV)
  | [] => some (true, .agg [.int .i64 value_Null.1, .int .i64 value_Null.2.1, .str value_Null.2.2])
  | _ => none
theorem value_Null_c : OcOk Tryd.prog ITryd 12 value_Null_o := fun xs r h => by
  unfold value_Null_o at h; split at h
  · simp only [Option.some.injEq, Prod.mk.injEq, true_and] at h; subst h
    exact good_XF mxTryd (inv0Ok _) E0_ok Tryd.func12 rfl (by kernel_rfl) (loOk_none fun _ _ _ => rfl) (value_Null_x ..)
  · simp at h

/- 1 nodes -/
def ref07_Null : Int × Int × List UInt8 := ((0 : Int), (0 : Int), [])
theorem ref07_Null_x : XF Tryd.prog E0 Tryd.f13 (Tryd.f13.body.getD .skip) [] = some (.agg [.int .i64 ref07_Null.1, .int .i64 ref07_Null.2.1, .str ref07_Null.2.2]) :=
  (show _ = some (AV.agg [AV.int IntKind.i64 (0 : Int), AV.int IntKind.i64 (0 : Int), AV.str []]) by kernel_rfl).trans (by unfold ref07_Null; repeat' (first | rfl | refine br_map (f := fun (p : Int × Int × List UInt8) => some (.agg [.int .i64 p.1, .int .i64 p.2.1, .str p.2.2] : AV)) ?_ ?_))
def ref07_Null_o : List AV → Option (Bool × AV)
  | [] => some (true, .agg [.int .i64 ref07_Null.1, .int .i64 ref07_Null.2.1, .str ref07_Null.2.2])
  | _ => none
theorem ref07_Null_c : OcOk Tryd.prog ITryd 13 ref07_Null_o := fun xs r h => by
  unfold ref07_Null_o at h; split at h
  · simp only [Option.some.injEq, Prod.mk.injEq, true_and] at h; subst h
    exact good_XF mxTryd (inv0Ok _) E0_ok Tryd.func13 rfl (by kernel_rfl) (loOk_none fun _ _ _ => rfl) (ref07_Null_x ..)
  · simp at h

/- 3 nodes -/
def value_Bool (b : Bool) : Int × Int × List UInt8 := (br (b) ((3 : Int), (1 : Int), []) ((3 : Int), (0 : Int), []))
theorem value_Bool_x (b : Bool) : XF Tryd.prog E0 Tryd.f18 (Tryd.f18.body.getD .skip) [AV.bool b] = some (.agg [.int .i64 (value_Bool b).1, .int .i64 (value_Bool b).2.1, .str (value_Bool b).2.2]) :=
  (show _ = br b (some (AV.agg [AV.int IntKind.i64 (3 : Int), AV.int IntKind.i64 (1 : Int), AV.str []])) (some (AV.agg [AV.int IntKind.i64 (3 : Int), AV.int IntKind.i64 (0 : Int), AV.str []])) by kernel_rfl).trans (by unfold value_Bool; repeat' (first | rfl | refine br_map (f := fun (p : Int × Int × List UInt8) => some (.agg [.int .i64 p.1, .int .i64 p.2.1, .str p.2.2] : AV)) ?_ ?_))
def value_Bool_o : List AV → Option (Bool × AV)
  | [AV.bool b] => some (true, .agg [.int .i64 (value_Bool b).1, .int .i64 (value_Bool b).2.1, .str (value_Bool b).2.2])
  | _ => none
theorem value_Bool_c : OcOk Tryd.prog ITryd 18 value_Bool_o := fun xs r h => by
  unfold value_Bool_o at h; split at h
  · simp only [Option.some.injEq, Prod.mk.injEq, true_and] at h; subst h
    exact good_XF mxTryd (inv0Ok _) E0_ok Tryd.func18 rfl (by kernel_rfl) (loOk_none fun _ _ _ => rfl) (value_Bool_x ..)
  · simp at h

/- 3 nodes -/
def ref07_Bool (b : Bool) : Int × Int × List UInt8 := (br (b) ((3 : Int), (1 : Int), []) ((3 : Int), (0 : Int), []))
theorem ref07_Bool_x (b : Bool) : XF Tryd.prog E0 Tryd.f19 (Tryd.f19.body.getD .skip) [AV.bool b] = some (.agg [.int .i64 (ref07_Bool b).1, .int .i64 (ref07_Bool b).2.1, .str (ref07_Bool b).2.2]) :=
  (show _ = br b (some (AV.agg [AV.int IntKind.i64 (3 : Int), AV.int IntKind.i64 (1 : Int), AV.str []])) (some (AV.agg [AV.int IntKind.i64 (3 : Int), AV.int IntKind.i64 (0 : Int), AV.str []])) by kernel_rfl).trans (by unfold ref07_Bool; repeat' (first | rfl | refine br_map (f := fun (p : Int × Int × List UInt8) => some (.agg [.int .i64 p.1, .int .i64 p.2.1, .str p.2.2] : AV)) ?_ ?_))
def ref07_Bool_o : List AV → Option (Bool × AV)
  | [AV.bool b] => some (true, .agg [.int .i64 (ref07_Bool b).1, .int .i64 (ref07_Bool b).2.1, .str (ref07_Bool b).2.2])
  | _ => none
theorem ref07_Bool_c : OcOk Tryd.prog ITryd 19 ref07_Bool_o := fun xs r h => by
  unfold ref07_Bool_o at h; split at h
  · simp only [Option.some.injEq, Prod.mk.injEq, true_and] at h; subst h
    exact good_XF mxTryd (inv0Ok _) E0_ok Tryd.func19 rfl (by kernel_rfl) (loOk_none fun _ _ _ => rfl) (ref07_Bool_x ..)
  · simp at h

/- 5 nodes -/
def ref07_Not (a : Int) : Int := (br (a == (2 : Int)) ((0 : Int)) (br (a == (0 : Int)) ((2 : Int)) ((1 : Int))))
theorem ref07_Not_x (a : Int) : XF Tryd.prog E0 Tryd.f34 (Tryd.f34.body.getD .skip) [AV.int IntKind.i64 a] = some (.int .i64 (ref07_Not a)) :=
  (show _ = br (a == (2 : Int)) (some (AV.int IntKind.i64 (0 : Int))) (br (a == (0 : Int)) (some (AV.int IntKind.i64 (2 : Int))) (some (AV.int IntKind.i64 (1 : Int)))) by kernel_rfl).trans (by unfold ref07_Not; repeat' (first | rfl | refine br_map (f := fun (p : Int) => some (.int .i64 p : AV)) ?_ ?_))
def ref07_Not_o : List AV → Option (Bool × AV)
  | [AV.int IntKind.i64 a] => some (true, .int .i64 (ref07_Not a))
  | _ => none
theorem ref07_Not_c : OcOk Tryd.prog ITryd 34 ref07_Not_o := fun xs r h => by
  unfold ref07_Not_o at h; split at h
  · simp only [Option.some.injEq, Prod.mk.injEq, true_and] at h; subst h
    exact good_XF mxTryd (inv0Ok _) E0_ok Tryd.func34 rfl (by kernel_rfl) (loOk_none fun _ _ _ => rfl) (ref07_Not_x ..)
  · simp at h

/- 9 nodes -/
def ref07_And (a : Int) (b : Int) : Int := (br (a == (0 : Int)) ((0 : Int)) (br (b == (0 : Int)) ((0 : Int)) (br (a == (2 : Int)) (br (b == (2 : Int)) ((2 : Int)) ((1 : Int))) ((1 : Int)))))
theorem ref07_And_x (a : Int) (b : Int) : XF Tryd.prog E0 Tryd.f35 (Tryd.f35.body.getD .skip) [AV.int IntKind.i64 a, AV.int IntKind.i64 b] = some (.int .i64 (ref07_And a b)) :=
  (show _ = br (a == (0 : Int)) (some (AV.int IntKind.i64 (0 : Int))) (br (b == (0 : Int)) (some (AV.int IntKind.i64 (0 : Int))) (br (a == (2 : Int)) (br (b == (2 : Int)) (some (AV.int IntKind.i64 (2 : Int))) (some (AV.int IntKind.i64 (1 : Int)))) (some (AV.int IntKind.i64 (1 : Int))))) by kernel_rfl).trans (by unfold ref07_And; repeat' (first | rfl | refine br_map (f := fun (p : Int) => some (.int .i64 p : AV)) ?_ ?_))
def ref07_And_o : List AV → Option (Bool × AV)
  | [AV.int IntKind.i64 a, AV.int IntKind.i64 b] => some (true, .int .i64 (ref07_And a b))
  | _ => none
theorem ref07_And_c : OcOk Tryd.prog ITryd 35 ref07_And_o := fun xs r h => by
  unfold ref07_And_o at h; split at h
  · simp only [Option.some.injEq, Prod.mk.injEq, true_and] at h; subst h
    exact good_XF mxTryd (inv0Ok _) E0_ok Tryd.func35 rfl (by kernel_rfl) (loOk_none fun _ _ _ => rfl) (ref07_And_x ..)
  · simp at h

/- 9 nodes -/
def ref07_Or (a : Int) (b : Int) : Int := (br (a == (2 : Int)) ((2 : Int)) (br (b == (2 : Int)) ((2 : Int)) (br (a == (0 : Int)) (br (b == (0 : Int)) ((0 : Int)) ((1 : Int))) ((1 : Int)))))
theorem ref07_Or_x (a : Int) (b : Int) : XF Tryd.prog E0 Tryd.f36 (Tryd.f36.body.getD .skip) [AV.int IntKind.i64 a, AV.int IntKind.i64 b] = some (.int .i64 (ref07_Or a b)) :=
  (show _ = br (a == (2 : Int)) (some (AV.int IntKind.i64 (2 : Int))) (br (b == (2 : Int)) (some (AV.int IntKind.i64 (2 : Int))) (br (a == (0 : Int)) (br (b == (0 : Int)) (some (AV.int IntKind.i64 (0 : Int))) (some (AV.int IntKind.i64 (1 : Int)))) (some (AV.int IntKind.i64 (1 : Int))))) by kernel_rfl).trans (by unfold ref07_Or; repeat' (first | rfl | refine br_map (f := fun (p : Int) => some (.int .i64 p : AV)) ?_ ?_))
def ref07_Or_o : List AV → Option (Bool × AV)
  | [AV.int IntKind.i64 a, AV.int IntKind.i64 b] => some (true, .int .i64 (ref07_Or a b))
  | _ => none
theorem ref07_Or_c : OcOk Tryd.prog ITryd 36 ref07_Or_o := fun xs r h => by
  unfold ref07_Or_o at h; split at h
  · simp only [Option.some.injEq, Prod.mk.injEq, true_and] at h; subst h
    exact good_XF mxTryd (inv0Ok _) E0_ok Tryd.func36 rfl (by kernel_rfl) (loOk_none fun _ _ _ => rfl) (ref07_Or_x ..)
  · simp at h

/- 5 nodes -/
def value_normal (t : Int) : Int := (br (t != (0 : Int)) (br (t != (2 : Int)) ((1 : Int)) (t)) (t))
theorem value_normal_x (t : Int) : XF Tryd.prog E0 Tryd.f61 (Tryd.f61.body.getD .skip) [AV.int IntKind.i64 t] = some (.int .i64 (value_normal t)) :=
  (show _ = br (t != (0 : Int)) (br (t != (2 : Int)) (some (AV.int IntKind.i64 (1 : Int))) (some (AV.int IntKind.i64 t))) (some (AV.int IntKind.i64 t)) by kernel_rfl).trans (by unfold value_normal; repeat' (first | rfl | refine br_map (f := fun (p : Int) => some (.int .i64 p : AV)) ?_ ?_))
def value_normal_o : List AV → Option (Bool × AV)
  | [AV.int IntKind.i64 t] => some (true, .int .i64 (value_normal t))
  | _ => none
theorem value_normal_c : OcOk Tryd.prog ITryd 61 value_normal_o := fun xs r h => by
  unfold value_normal_o at h; split at h
  · simp only [Option.some.injEq, Prod.mk.injEq, true_and] at h; subst h
    exact good_XF mxTryd (inv0Ok _) E0_ok Tryd.func61 rfl (by kernel_rfl) (loOk_none fun _ _ _ => rfl) (value_normal_x ..)
  · simp at h

/- 1 nodes -/
def cmp_isNaN_int (x : Int) : Bool := (x != x)
theorem cmp_isNaN_int_x (x : Int) : XF Tryd.prog E0 Tryd.f69 (Tryd.f69.body.getD .skip) [AV.int IntKind.i64 x] = some (.bool (cmp_isNaN_int x)) :=
  (show _ = some (AV.bool (x != x)) by kernel_rfl).trans (by unfold cmp_isNaN_int; repeat' (first | rfl | refine br_map (f := fun (p : Bool) => some (.bool p : AV)) ?_ ?_))
def cmp_isNaN_int_o : List AV → Option (Bool × AV)
  | [AV.int IntKind.i64 x] => some (true, .bool (cmp_isNaN_int x))
  | _ => none
theorem cmp_isNaN_int_c : OcOk Tryd.prog ITryd 69 cmp_isNaN_int_o := fun xs r h => by
  unfold cmp_isNaN_int_o at h; split at h
  · simp only [Option.some.injEq, Prod.mk.injEq, true_and] at h; subst h
    exact good_XF mxTryd (inv0Ok _) E0_ok Tryd.func69 rfl (by kernel_rfl) (loOk_none fun _ _ _ => rfl) (cmp_isNaN_int_x ..)
  · simp at h

/- 5 nodes -/
def internal_stringslite_HasPrefix (s : List UInt8) (prefix0 : List UInt8) : Bool := (br (decide ((↑s.length : Int) ≥ (↑prefix0.length : Int))) (br (decide ((↑prefix0.length : Int) ≤ (↑s.length : Int)) && true) (List.take ((↑prefix0.length : Int).toNat - (0 : Nat)) (List.drop (0 : Nat) s) == prefix0) (false)) (false))
def internal_stringslite_HasPrefix_pre (s : List UInt8) (prefix0 : List UInt8) : Bool := br (decide ((↑s.length : Int) ≥ (↑prefix0.length : Int))) (br (decide ((↑prefix0.length : Int) ≤ (↑s.length : Int)) && true) (true) (false)) (true)
theorem internal_stringslite_HasPrefix_x (s : List UInt8) (prefix0 : List UInt8) : XF Tryd.prog E0 Tryd.f62 (Tryd.f62.body.getD .skip) [AV.str s, AV.str prefix0] = br (internal_stringslite_HasPrefix_pre s prefix0) (some (.bool (internal_stringslite_HasPrefix s prefix0))) none :=
  (show _ = br (decide ((↑s.length : Int) ≥ (↑prefix0.length : Int))) (br (decide ((↑prefix0.length : Int) ≤ (↑s.length : Int)) && true) (some (AV.bool (List.take ((↑prefix0.length : Int).toNat - (0 : Nat)) (List.drop (0 : Nat) s) == prefix0))) none) (some (AV.bool false)) by kernel_rfl).trans (by unfold internal_stringslite_HasPrefix internal_stringslite_HasPrefix_pre; repeat' (first | rfl | refine br_opt (F := fun (p : Bool) => (.bool p : AV)) ?_ ?_))
def internal_stringslite_HasPrefix_o : List AV → Option (Bool × AV)
  | [AV.str s, AV.str prefix0] => some (internal_stringslite_HasPrefix_pre s prefix0, .bool (internal_stringslite_HasPrefix s prefix0))
  | _ => none
theorem internal_stringslite_HasPrefix_c : OcOk Tryd.prog ITryd 62 internal_stringslite_HasPrefix_o := fun xs r h => by
  unfold internal_stringslite_HasPrefix_o at h; split at h
  · simp only [Option.some.injEq, Prod.mk.injEq] at h; obtain ⟨h1, rfl⟩ := h
    exact good_XF mxTryd (inv0Ok _) E0_ok Tryd.func62 rfl (by kernel_rfl) (loOk_none fun _ _ _ => rfl) ((internal_stringslite_HasPrefix_x ..).trans (by rw [h1]; rfl))
  · simp at h

/- 5 nodes -/
def internal_stringslite_HasSuffix (s : List UInt8) (suffix : List UInt8) : Bool := (br (decide ((↑s.length : Int) ≥ (↑suffix.length : Int))) (br (decide ((0 : Int) ≤ IntKind.i64.wrap ((↑s.length : Int) - (↑suffix.length : Int))) && decide (IntKind.i64.wrap ((↑s.length : Int) - (↑suffix.length : Int)) ≤ (↑s.length : Int))) (List.take (s.length - (IntKind.i64.wrap ((↑s.length : Int) - (↑suffix.length : Int))).toNat) (List.drop (IntKind.i64.wrap ((↑s.length : Int) - (↑suffix.length : Int))).toNat s) == suffix) (false)) (false))
def internal_stringslite_HasSuffix_pre (s : List UInt8) (suffix : List UInt8) : Bool := br (decide ((↑s.length : Int) ≥ (↑suffix.length : Int))) (br (decide ((0 : Int) ≤ IntKind.i64.wrap ((↑s.length : Int) - (↑suffix.length : Int))) && decide (IntKind.i64.wrap ((↑s.length : Int) - (↑suffix.length : Int)) ≤ (↑s.length : Int))) (true) (false)) (true)
theorem internal_stringslite_HasSuffix_x (s : List UInt8) (suffix : List UInt8) : XF Tryd.prog E0 Tryd.f81 (Tryd.f81.body.getD .skip) [AV.str s, AV.str suffix] = br (internal_stringslite_HasSuffix_pre s suffix) (some (.bool (internal_stringslite_HasSuffix s suffix))) none :=
  (show _ = br (decide ((↑s.length : Int) ≥ (↑suffix.length : Int))) (br (decide ((0 : Int) ≤ IntKind.i64.wrap ((↑s.length : Int) - (↑suffix.length : Int))) && decide (IntKind.i64.wrap ((↑s.length : Int) - (↑suffix.length : Int)) ≤ (↑s.length : Int))) (some (AV.bool (List.take (s.length - (IntKind.i64.wrap ((↑s.length : Int) - (↑suffix.length : Int))).toNat) (List.drop (IntKind.i64.wrap ((↑s.length : Int) - (↑suffix.length : Int))).toNat s) == suffix))) none) (some (AV.bool false)) by kernel_rfl).trans (by unfold internal_stringslite_HasSuffix internal_stringslite_HasSuffix_pre; repeat' (first | rfl | refine br_opt (F := fun (p : Bool) => (.bool p : AV)) ?_ ?_))
def internal_stringslite_HasSuffix_o : List AV → Option (Bool × AV)
  | [AV.str s, AV.str suffix] => some (internal_stringslite_HasSuffix_pre s suffix, .bool (internal_stringslite_HasSuffix s suffix))
  | _ => none
theorem internal_stringslite_HasSuffix_c : OcOk Tryd.prog ITryd 81 internal_stringslite_HasSuffix_o := fun xs r h => by
  unfold internal_stringslite_HasSuffix_o at h; split at h
  · simp only [Option.some.injEq, Prod.mk.injEq] at h; obtain ⟨h1, rfl⟩ := h
    exact good_XF mxTryd (inv0Ok _) E0_ok Tryd.func81 rfl (by kernel_rfl) (loOk_none fun _ _ _ => rfl) ((internal_stringslite_HasSuffix_x ..).trans (by rw [h1]; rfl))
  · simp at h

/- 5 nodes -/
def ref07_sign (less : Bool) (greater : Bool) : Int := (br (less) ((-1 : Int)) (br (greater) ((1 : Int)) ((0 : Int))))
theorem ref07_sign_x (less : Bool) (greater : Bool) : XF Tryd.prog E0 Tryd.f57 (Tryd.f57.body.getD .skip) [AV.bool less, AV.bool greater] = some (.int .i64 (ref07_sign less greater)) :=
  (show _ = br less (some (AV.int IntKind.i64 (-1 : Int))) (br greater (some (AV.int IntKind.i64 (1 : Int))) (some (AV.int IntKind.i64 (0 : Int)))) by kernel_rfl).trans (by unfold ref07_sign; repeat' (first | rfl | refine br_map (f := fun (p : Int) => some (.int .i64 p : AV)) ?_ ?_))
def ref07_sign_o : List AV → Option (Bool × AV)
  | [AV.bool less, AV.bool greater] => some (true, .int .i64 (ref07_sign less greater))
  | _ => none
theorem ref07_sign_c : OcOk Tryd.prog ITryd 57 ref07_sign_o := fun xs r h => by
  unfold ref07_sign_o at h; split at h
  · simp only [Option.some.injEq, Prod.mk.injEq, true_and] at h; subst h
    exact good_XF mxTryd (inv0Ok _) E0_ok Tryd.func57 rfl (by kernel_rfl) (loOk_none fun _ _ _ => rfl) (ref07_sign_x ..)
  · simp at h

/- 7 nodes -/
def value_decide (a_k : Int) (a_i : Int) (a_t : List UInt8) (b_k : Int) (b_i : Int) (b_t : List UInt8) (is0 : Bool) : Int := (br (a_k == (0 : Int)) ((1 : Int)) (br (a_k != b_k) ((1 : Int)) (br (is0) ((2 : Int)) ((0 : Int)))))
theorem value_decide_x (a_k : Int) (a_i : Int) (a_t : List UInt8) (b_k : Int) (b_i : Int) (b_t : List UInt8) (is0 : Bool) : XF Tryd.prog E0 Tryd.f58 (Tryd.f58.body.getD .skip) [AV.agg [AV.int IntKind.i64 a_k, AV.int IntKind.i64 a_i, AV.str a_t], AV.agg [AV.int IntKind.i64 b_k, AV.int IntKind.i64 b_i, AV.str b_t], AV.bool is0] = some (.int .i64 (value_decide a_k a_i a_t b_k b_i b_t is0)) :=
  (show _ = br (a_k == (0 : Int)) (some (AV.int IntKind.i64 (1 : Int))) (br (a_k != b_k) (some (AV.int IntKind.i64 (1 : Int))) (br is0 (some (AV.int IntKind.i64 (2 : Int))) (some (AV.int IntKind.i64 (0 : Int))))) by kernel_rfl).trans (by unfold value_decide; repeat' (first | rfl | refine br_map (f := fun (p : Int) => some (.int .i64 p : AV)) ?_ ?_))
def value_decide_o : List AV → Option (Bool × AV)
  | [AV.agg [AV.int IntKind.i64 a_k, AV.int IntKind.i64 a_i, AV.str a_t], AV.agg [AV.int IntKind.i64 b_k, AV.int IntKind.i64 b_i, AV.str b_t], AV.bool is0] => some (true, .int .i64 (value_decide a_k a_i a_t b_k b_i b_t is0))
  | _ => none
theorem value_decide_c : OcOk Tryd.prog ITryd 58 value_decide_o := fun xs r h => by
  unfold value_decide_o at h; split at h
  · simp only [Option.some.injEq, Prod.mk.injEq, true_and] at h; subst h
    exact good_XF mxTryd (inv0Ok _) E0_ok Tryd.func58 rfl (by kernel_rfl) (loOk_none fun _ _ _ => rfl) (value_decide_x ..)
  · simp at h

/- 7 nodes -/
def ref07_truth (a_k : Int) (a_i : Int) (a_t : List UInt8) (b_k : Int) (b_i : Int) (b_t : List UInt8) (is0 : Bool) : Int := (br (a_k == (0 : Int)) ((1 : Int)) (br (a_k != b_k) ((1 : Int)) (br (is0) ((2 : Int)) ((0 : Int)))))
theorem ref07_truth_x (a_k : Int) (a_i : Int) (a_t : List UInt8) (b_k : Int) (b_i : Int) (b_t : List UInt8) (is0 : Bool) : XF Tryd.prog E0 Tryd.f59 (Tryd.f59.body.getD .skip) [AV.agg [AV.int IntKind.i64 a_k, AV.int IntKind.i64 a_i, AV.str a_t], AV.agg [AV.int IntKind.i64 b_k, AV.int IntKind.i64 b_i, AV.str b_t], AV.bool is0] = some (.int .i64 (ref07_truth a_k a_i a_t b_k b_i b_t is0)) :=
  (show _ = br (a_k == (0 : Int)) (some (AV.int IntKind.i64 (1 : Int))) (br (a_k != b_k) (some (AV.int IntKind.i64 (1 : Int))) (br is0 (some (AV.int IntKind.i64 (2 : Int))) (some (AV.int IntKind.i64 (0 : Int))))) by kernel_rfl).trans (by unfold ref07_truth; repeat' (first | rfl | refine br_map (f := fun (p : Int) => some (.int .i64 p : AV)) ?_ ?_))
def ref07_truth_o : List AV → Option (Bool × AV)
  | [AV.agg [AV.int IntKind.i64 a_k, AV.int IntKind.i64 a_i, AV.str a_t], AV.agg [AV.int IntKind.i64 b_k, AV.int IntKind.i64 b_i, AV.str b_t], AV.bool is0] => some (true, .int .i64 (ref07_truth a_k a_i a_t b_k b_i b_t is0))
  | _ => none
theorem ref07_truth_c : OcOk Tryd.prog ITryd 59 ref07_truth_o := fun xs r h => by
  unfold ref07_truth_o at h; split at h
  · simp only [Option.some.injEq, Prod.mk.injEq, true_and] at h; subst h
    exact good_XF mxTryd (inv0Ok _) E0_ok Tryd.func59 rfl (by kernel_rfl) (loOk_none fun _ _ _ => rfl) (ref07_truth_x ..)
  · simp at h

/- 7 nodes -/
def cmp_Or_int3 (vals0 : Int) (vals1 : Int) (vals2 : Int) : Int := (br (vals0 != (0 : Int)) (vals0) (br (vals1 != (0 : Int)) (vals1) (br (vals2 != (0 : Int)) (vals2) ((0 : Int)))))
theorem cmp_Or_int3_x (vals0 : Int) (vals1 : Int) (vals2 : Int) : XF Tryd.prog E0 Tryd.f54 (Tryd.f54.body.getD .skip) [AV.list (1 : Nat) [AV.int IntKind.i64 vals0, AV.int IntKind.i64 vals1, AV.int IntKind.i64 vals2]] = some (.int .i64 (cmp_Or_int3 vals0 vals1 vals2)) :=
  (show _ = br (vals0 != (0 : Int)) (some (AV.int IntKind.i64 vals0)) (br (vals1 != (0 : Int)) (some (AV.int IntKind.i64 vals1)) (br (vals2 != (0 : Int)) (some (AV.int IntKind.i64 vals2)) (some (AV.int IntKind.i64 (0 : Int))))) by kernel_rfl).trans (by unfold cmp_Or_int3; repeat' (first | rfl | refine br_map (f := fun (p : Int) => some (.int .i64 p : AV)) ?_ ?_))
def cmp_Or_int3_o : List AV → Option (Bool × AV)
  | [AV.list (1 : Nat) [AV.int IntKind.i64 vals0, AV.int IntKind.i64 vals1, AV.int IntKind.i64 vals2]] => some (true, .int .i64 (cmp_Or_int3 vals0 vals1 vals2))
  | _ => none
theorem cmp_Or_int3_c : OcOk Tryd.prog ITryd 54 cmp_Or_int3_o := fun xs r h => by
  unfold cmp_Or_int3_o at h; split at h
  · simp only [Option.some.injEq, Prod.mk.injEq, true_and] at h; subst h
    exact good_XF mxTryd (inv0Ok _) E0_ok Tryd.func54 rfl (by kernel_rfl) (loOk_none fun _ _ _ => rfl) (cmp_Or_int3_x ..)
  · simp at h


def E1 : Env := (((((((((((((((E0.with 12 value_Null_o).with 13 ref07_Null_o).with 18 value_Bool_o).with 19 ref07_Bool_o).with 34 ref07_Not_o).with 35 ref07_And_o).with 36 ref07_Or_o).with 61 value_normal_o).with 69 cmp_isNaN_int_o).with 62 internal_stringslite_HasPrefix_o).with 81 internal_stringslite_HasSuffix_o).with 57 ref07_sign_o).with 58 value_decide_o).with 59 ref07_truth_o).with 54 cmp_Or_int3_o)
theorem E1_ok : OrcOk Tryd.prog ITryd E1 := (((((((((((((((E0_ok.with value_Null_c).with ref07_Null_c).with value_Bool_c).with ref07_Bool_c).with ref07_Not_c).with ref07_And_c).with ref07_Or_c).with value_normal_c).with cmp_isNaN_int_c).with internal_stringslite_HasPrefix_c).with internal_stringslite_HasSuffix_c).with ref07_sign_c).with value_decide_c).with ref07_truth_c).with cmp_Or_int3_c)
end Go.Sim.M
