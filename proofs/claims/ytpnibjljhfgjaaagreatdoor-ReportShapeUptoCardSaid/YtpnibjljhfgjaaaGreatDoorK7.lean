/- Functions of the program as the executor found them: printed by program, checked by the kernel. -/
import Derived.Test.YtpnibjljhfgjaaaGreatDoorK6V
set_option linter.unusedVariables false
set_option linter.unusedSimpArgs false
set_option maxRecDepth 100000
namespace Go.Sim.M
open Go.RowKit Go.Proofs

/-- The environment of bitemporal/bitemporalref55.repeat: its loops so far. -/

noncomputable def ref55_repeat_E0 : Env := EK6V.fn 16 0 (lsOf []) (lpsOf [])

theorem ref55_repeat_E0_ok : OrcOk Tryz.prog (ITryz.at 0) ref55_repeat_E0 := EK6V_ok.fn

theorem ref55_repeat_E0_lk59_0 : LoOk Tryz.prog (ITryz.at ref55_repeat_E0.pin) ref55_repeat_E0 (loopAt Tryz.f59 0) := loOk_nil (by kernel_rfl)

/- 5 nodes -/
noncomputable def ref55_repeat_l0_t {T : Type} (s0 : List UInt8) (n : Int) (out : List UInt8) (i : Int) (δ : T) (κl : (List UInt8 × Int) → T) (κr : (List UInt8) → T) : T := br (decide (i < n)) (br (decide (out.length + s0.length ≤ (4611686018427387904 : Nat))) (κl (out ++ s0, IntKind.i64.wrap (i + (1 : Int)))) (δ)) (κr (out))
noncomputable def ref55_repeat_l0_step (s0 : List UInt8) (n : Int) : (List UInt8 × Int) → Option ((List UInt8 × Int) ⊕ (List UInt8)) := fun (out, i) => ref55_repeat_l0_t s0 n out i none (fun s => some (.inl s)) (fun p => some (.inr p))
noncomputable def ref55_repeat_l0_L (s0 : List UInt8) (n : Int) : (List UInt8 × Int) → List AV × List Box := fun (out, i) => ([AV.str s0, AV.int IntKind.i64 n, AV.str out, AV.int IntKind.i64 i], [])
noncomputable def ref55_repeat_l0_out (s0 : List UInt8) (n : Int) : (List UInt8) → LR := fun p => (.leaf (Exit.exit (0 : Nat)) [AV.str p] [])
noncomputable abbrev ref55_repeat_l0_X (vals : List AV) (H : List Box) := XR Tryz.prog ref55_repeat_E0 [0, 1, 5, 6] [5] [] (loopAt Tryz.f59 0) vals H
theorem ref55_repeat_l0_r (s0 : List UInt8) (n : Int) (s : List UInt8 × Int) : Enc (encR (ref55_repeat_l0_L s0 n) (ref55_repeat_l0_out s0 n)) (ref55_repeat_l0_step s0 n s) (ref55_repeat_l0_X (ref55_repeat_l0_L s0 n s).1 (ref55_repeat_l0_L s0 n s).2) := by
  obtain ⟨out, i⟩ := s
  have h : ref55_repeat_l0_X (ref55_repeat_l0_L s0 n (out, i)).1 (ref55_repeat_l0_L s0 n (out, i)).2 = ref55_repeat_l0_t s0 n out i none (fun s => some (encR (ref55_repeat_l0_L s0 n) (ref55_repeat_l0_out s0 n) (.inl s))) (fun p => some (encR (ref55_repeat_l0_L s0 n) (ref55_repeat_l0_out s0 n) (.inr p))) := by kernel_rfl
  rw [h]; unfold ref55_repeat_l0_step ref55_repeat_l0_t; repeat' (first | exact Enc.none | exact Enc.some rfl | refine Enc.br ?_ ?_)
noncomputable def ref55_repeat_l0_lp : Lp := lpOf [0, 1, 5, 6] [5] [] (pCons pStr (pCons (pInt IntKind.i64) (pCons pStr (pCons (pInt IntKind.i64) pNil)))) pNil fun (s0, (n, (out, (i, _)))) _ => ((Iter (ref55_repeat_l0_step s0 n) (out, i)).isSome, ref55_repeat_l0_out s0 n ((Iter (ref55_repeat_l0_step s0 n) (out, i)).getD []))
theorem ref55_repeat_l0_lok : LoopOk Tryz.prog (ITryz.at ref55_repeat_E0.pin) ref55_repeat_E0.nt (loopAt Tryz.f59 0) ref55_repeat_l0_lp := lok_of fun vv bb rr hh => by
  obtain ⟨s0, ⟨n, ⟨out, ⟨i, _⟩⟩⟩⟩ := vv
  obtain ⟨hh1, rfl⟩ := Prod.mk.inj hh
  exact loop_of_XR mxTryz (inv0Ok Tryz.prog _) rfl ref55_repeat_E0_ok ref55_repeat_E0_lk59_0 (ref55_repeat_l0_L s0 n) (ref55_repeat_l0_out s0 n) (fun p => by simp only [ref55_repeat_l0_out, LR.eval]; first | (simp; done) | (repeat' split <;> simp)) (ref55_repeat_l0_r s0 n) (s := (out, i)) (getD_of_isSome hh1)


/-- The environment of bitemporal/bitemporalref55.repeat: its loops so far. -/

noncomputable def ref55_repeat_E1 : Env := EK6V.fn 16 0 (lsOf []) (lpsOf [(3, ref55_repeat_l0_lp)])

theorem ref55_repeat_E1_ok : OrcOk Tryz.prog (ITryz.at 0) ref55_repeat_E1 := EK6V_ok.fn

theorem ref55_repeat_E1_lk59 : LoOk Tryz.prog (ITryz.at ref55_repeat_E1.pin) ref55_repeat_E1 (Tryz.f59.body.getD .skip) := loOk_all (ls := [loopAt Tryz.f59 0]) (by kernel_rfl) (fun l hl lp hs => by
  simp only [List.mem_cons, List.not_mem_nil, or_false] at hl
  rcases hl with rfl
  · rw [show ref55_repeat_E1.lp (codeId (loopAt Tryz.f59 0)) = some ref55_repeat_l0_lp by kernel_rfl] at hs
    simp only [Option.some.injEq] at hs; subst hs; exact ref55_repeat_l0_lok)

/- 3 nodes -/
noncomputable def ref55_repeat_t {T : Type} (s0 : List UInt8) (n : Int) (δ : T) (κ : List UInt8 → T) : T := br ((Iter (ref55_repeat_l0_step s0 n) ([], (0 : Int))).isSome) (κ ((Iter (ref55_repeat_l0_step s0 n) ([], (0 : Int))).getD [])) (δ)
noncomputable def ref55_repeat (s0 : List UInt8) (n : Int) : Option (List UInt8) := ref55_repeat_t s0 n none some
theorem ref55_repeat_x (s0 : List UInt8) (n : Int) : Enc (fun (p : List UInt8) => ((AV.str p) : AV)) (ref55_repeat s0 n) (XF Tryz.prog ref55_repeat_E1 Tryz.f59 (Tryz.f59.body.getD .skip) [AV.str s0, AV.int IntKind.i64 n]) := by
  have h : XF Tryz.prog ref55_repeat_E1 Tryz.f59 (Tryz.f59.body.getD .skip) [AV.str s0, AV.int IntKind.i64 n] = ref55_repeat_t s0 n none (fun (p : List UInt8) => some ((AV.str p) : AV)) := by kernel_rfl
  rw [h]; unfold ref55_repeat ref55_repeat_t; repeat' (first | exact Enc.none | exact Enc.some rfl | refine Enc.br ?_ ?_)
noncomputable def ref55_repeat_o : List AV → Option (Bool × AV) := ocOf (sCons (sEq pStr) (sCons (sEq (pInt IntKind.i64)) sNil)) fun (s0, (n, _)) => ((ref55_repeat s0 n).isSome, (AV.str ((ref55_repeat s0 n).getD [])))
theorem ref55_repeat_c : OcOk Tryz.prog ITryz 59 (ref55_repeat_o) := ocOk_of fun vv rr hh => by
  obtain ⟨s0, ⟨n, _⟩⟩ := vv
  obtain ⟨hh1, hh2⟩ := Prod.mk.inj hh
  refine good_pin (p := ref55_repeat_E1.pin) (good_XF mxTryz (inv0Ok Tryz.prog _) rfl ref55_repeat_E1_ok Tryz.func59 rfl (by kernel_rfl) ref55_repeat_E1_lk59 ((ref55_repeat_x _ _ _ (getD_of_isSome (d := []) hh1)).trans ?_))
  exact congrArg some hh2


noncomputable def EK7_1 : Env := EK6V.with 59 ref55_repeat_o

theorem EK7_1_ok : OrcOk Tryz.prog ITryz EK7_1 := EK6V_ok.with ref55_repeat_c

/-- The environment of bitemporal/bitemporalref55.line: its loops so far. -/

noncomputable def ref55_line_E0 : Env := EK7_1.fn 43 0 (lsOf []) (lpsOf [])

theorem ref55_line_E0_ok : OrcOk Tryz.prog (ITryz.at 0) ref55_line_E0 := EK7_1_ok.fn

theorem ref55_line_E0_lk60_0 : LoOk Tryz.prog (ITryz.at ref55_line_E0.pin) ref55_line_E0 (loopAt Tryz.f60 0) := loOk_nil (by kernel_rfl)

/- 47 nodes -/
noncomputable def ref55_line_l0_v0 (cells : List AV) (out : List UInt8) (i : Int) : List UInt8 := out ++ [(32 : UInt8), (124 : UInt8), (32 : UInt8)] ++ ((cells.getD i.toNat AV.top).cells.getD (0 : Nat) AV.top).toStr
noncomputable def ref55_line_l0_v2 (cells : List AV) (i : Int) : Bool := decide ((0 : Int) ≤ i) && decide (i < (↑cells.length : Int))
noncomputable def ref55_line_l0_v3 (cells : List AV) (i : Int) : Bool := decide (i.toNat < cells.length) && hasSh1 Sh.str ((cells.getD i.toNat AV.top).cells.getD (0 : Nat) AV.top)
noncomputable def ref55_line_l0_v5 (cells : List AV) (widths : List AV) (i : Int) : Option (List UInt8) := ref55_repeat [(32 : UInt8)] (IntKind.i64.wrap (((widths.getD i.toNat AV.top).cells.getD (0 : Nat) AV.top).toInt - (↑((cells.getD i.toNat AV.top).cells.getD (0 : Nat) AV.top).toStr.length : Int)))
noncomputable def ref55_line_l0_v6 (cells : List AV) (out : List UInt8) (i : Int) : List UInt8 := out ++ ((cells.getD i.toNat AV.top).cells.getD (0 : Nat) AV.top).toStr
noncomputable def ref55_line_l0_v7 (cells : List AV) (i : Int) : Bool := decide (i < IntKind.i64.wrap ((↑cells.length : Int) - (1 : Int)))
noncomputable def ref55_line_l0_v1 (cells : List AV) (widths : List AV) (i : Int) : List UInt8 := (ref55_line_l0_v5 cells widths i).getD []
noncomputable def ref55_line_l0_v4 (cells : List AV) (widths : List AV) (i : Int) : Bool := (ref55_line_l0_v5 cells widths i).isSome
noncomputable def ref55_line_l0_t {T : Type} (cells : List AV) (widths : List AV) (out : List UInt8) (i : Int) (δ : T) (κl : (List UInt8 × Int) → T) (κr : (List UInt8) → T) : T := br (decide (i < (↑cells.length : Int))) (br (decide (i > (0 : Int))) (br (decide (out.length + (3 : Nat) ≤ (4611686018427387904 : Nat))) (br (ref55_line_l0_v2 cells i) (br (ref55_line_l0_v3 cells i) (br (decide ((out ++ [(32 : UInt8), (124 : UInt8), (32 : UInt8)]).length + ((cells.getD i.toNat AV.top).cells.getD (0 : Nat) AV.top).toStr.length ≤ (4611686018427387904 : Nat))) (br (ref55_line_l0_v7 cells i) (br (decide ((0 : Int) ≤ i) && decide (i < (↑widths.length : Int))) (br (decide (i.toNat < widths.length) && hasSh1 (Sh.int IntKind.i64) ((widths.getD i.toNat AV.top).cells.getD (0 : Nat) AV.top)) (br (ref55_line_l0_v2 cells i) (br (ref55_line_l0_v3 cells i) (br (ref55_line_l0_v4 cells widths i) (br (decide ((ref55_line_l0_v0 cells out i).length + (ref55_line_l0_v1 cells widths i).length ≤ (4611686018427387904 : Nat))) (κl (ref55_line_l0_v0 cells out i ++ ref55_line_l0_v1 cells widths i, IntKind.i64.wrap (i + (1 : Int)))) (δ)) (δ)) (δ)) (δ)) (δ)) (δ)) (κl (ref55_line_l0_v0 cells out i, IntKind.i64.wrap (i + (1 : Int))))) (δ)) (δ)) (δ)) (δ)) (br (ref55_line_l0_v2 cells i) (br (ref55_line_l0_v3 cells i) (br (decide (out.length + ((cells.getD i.toNat AV.top).cells.getD (0 : Nat) AV.top).toStr.length ≤ (4611686018427387904 : Nat))) (br (ref55_line_l0_v7 cells i) (br (decide ((0 : Int) ≤ i) && decide (i < (↑widths.length : Int))) (br (decide (i.toNat < widths.length) && hasSh1 (Sh.int IntKind.i64) ((widths.getD i.toNat AV.top).cells.getD (0 : Nat) AV.top)) (br (ref55_line_l0_v2 cells i) (br (ref55_line_l0_v3 cells i) (br (ref55_line_l0_v4 cells widths i) (br (decide ((ref55_line_l0_v6 cells out i).length + (ref55_line_l0_v1 cells widths i).length ≤ (4611686018427387904 : Nat))) (κl (ref55_line_l0_v6 cells out i ++ ref55_line_l0_v1 cells widths i, IntKind.i64.wrap (i + (1 : Int)))) (δ)) (δ)) (δ)) (δ)) (δ)) (δ)) (κl (ref55_line_l0_v6 cells out i, IntKind.i64.wrap (i + (1 : Int))))) (δ)) (δ)) (δ))) (κr (out))
noncomputable def ref55_line_l0_step (cells : List AV) (widths : List AV) : (List UInt8 × Int) → Option ((List UInt8 × Int) ⊕ (List UInt8)) := fun (out, i) => ref55_line_l0_t cells widths out i none (fun s => some (.inl s)) (fun p => some (.inr p))
noncomputable def ref55_line_l0_L (cells : List AV) (widths : List AV) : (List UInt8 × Int) → List AV × List Box := fun (out, i) => ([AV.list (1 : Nat) cells, AV.list (1 : Nat) widths, AV.str out, AV.int IntKind.i64 i], [])
noncomputable def ref55_line_l0_out (cells : List AV) (widths : List AV) : (List UInt8) → LR := fun p => (.leaf (Exit.exit (0 : Nat)) [AV.str p] [])
noncomputable abbrev ref55_line_l0_X (vals : List AV) (H : List Box) := XR Tryz.prog ref55_line_E0 [0, 1, 5, 6] [5] [] (loopAt Tryz.f60 0) vals H
theorem ref55_line_l0_r (cells : List AV) (widths : List AV) (s : List UInt8 × Int) : Enc (encR (ref55_line_l0_L cells widths) (ref55_line_l0_out cells widths)) (ref55_line_l0_step cells widths s) (ref55_line_l0_X (ref55_line_l0_L cells widths s).1 (ref55_line_l0_L cells widths s).2) := by
  obtain ⟨out, i⟩ := s
  have h : ref55_line_l0_X (ref55_line_l0_L cells widths (out, i)).1 (ref55_line_l0_L cells widths (out, i)).2 = ref55_line_l0_t cells widths out i none (fun s => some (encR (ref55_line_l0_L cells widths) (ref55_line_l0_out cells widths) (.inl s))) (fun p => some (encR (ref55_line_l0_L cells widths) (ref55_line_l0_out cells widths) (.inr p))) := by kernel_rfl
  rw [h]; unfold ref55_line_l0_step ref55_line_l0_t; repeat' (first | exact Enc.none | exact Enc.some rfl | refine Enc.br ?_ ?_)
noncomputable def ref55_line_l0_lp : Lp := lpOf [0, 1, 5, 6] [5] [] (pCons (pList (1 : Nat) pAny) (pCons (pList (1 : Nat) pAny) (pCons pStr (pCons (pInt IntKind.i64) pNil)))) pNil fun (cells, (widths, (out, (i, _)))) _ => ((Iter (ref55_line_l0_step cells widths) (out, i)).isSome, ref55_line_l0_out cells widths ((Iter (ref55_line_l0_step cells widths) (out, i)).getD []))
theorem ref55_line_l0_lok : LoopOk Tryz.prog (ITryz.at ref55_line_E0.pin) ref55_line_E0.nt (loopAt Tryz.f60 0) ref55_line_l0_lp := lok_of fun vv bb rr hh => by
  obtain ⟨cells, ⟨widths, ⟨out, ⟨i, _⟩⟩⟩⟩ := vv
  obtain ⟨hh1, rfl⟩ := Prod.mk.inj hh
  exact loop_of_XR mxTryz (inv0Ok Tryz.prog _) rfl ref55_line_E0_ok ref55_line_E0_lk60_0 (ref55_line_l0_L cells widths) (ref55_line_l0_out cells widths) (fun p => by simp only [ref55_line_l0_out, LR.eval]; first | (simp; done) | (repeat' split <;> simp)) (ref55_line_l0_r cells widths) (s := (out, i)) (getD_of_isSome hh1)


/-- The environment of bitemporal/bitemporalref55.line: its loops so far. -/

noncomputable def ref55_line_E1 : Env := EK7_1.fn 43 0 (lsOf []) (lpsOf [(3, ref55_line_l0_lp)])

theorem ref55_line_E1_ok : OrcOk Tryz.prog (ITryz.at 0) ref55_line_E1 := EK7_1_ok.fn

theorem ref55_line_E1_lk60 : LoOk Tryz.prog (ITryz.at ref55_line_E1.pin) ref55_line_E1 (Tryz.f60.body.getD .skip) := loOk_all (ls := [loopAt Tryz.f60 0]) (by kernel_rfl) (fun l hl lp hs => by
  simp only [List.mem_cons, List.not_mem_nil, or_false] at hl
  rcases hl with rfl
  · rw [show ref55_line_E1.lp (codeId (loopAt Tryz.f60 0)) = some ref55_line_l0_lp by kernel_rfl] at hs
    simp only [Option.some.injEq] at hs; subst hs; exact ref55_line_l0_lok)

/- 5 nodes -/
noncomputable def ref55_line_t {T : Type} (cells : List AV) (widths : List AV) (δ : T) (κ : List UInt8 → T) : T := br ((Iter (ref55_line_l0_step cells widths) ([], (0 : Int))).isSome) (br (decide (((Iter (ref55_line_l0_step cells widths) ([], (0 : Int))).getD []).length + (1 : Nat) ≤ (4611686018427387904 : Nat))) (κ ((Iter (ref55_line_l0_step cells widths) ([], (0 : Int))).getD [] ++ [(10 : UInt8)])) (δ)) (δ)
noncomputable def ref55_line (cells : List AV) (widths : List AV) : Option (List UInt8) := ref55_line_t cells widths none some
theorem ref55_line_x (cells : List AV) (widths : List AV) : Enc (fun (p : List UInt8) => ((AV.str p) : AV)) (ref55_line cells widths) (XF Tryz.prog ref55_line_E1 Tryz.f60 (Tryz.f60.body.getD .skip) [AV.list (1 : Nat) cells, AV.list (1 : Nat) widths]) := by
  have h : XF Tryz.prog ref55_line_E1 Tryz.f60 (Tryz.f60.body.getD .skip) [AV.list (1 : Nat) cells, AV.list (1 : Nat) widths] = ref55_line_t cells widths none (fun (p : List UInt8) => some ((AV.str p) : AV)) := by kernel_rfl
  rw [h]; unfold ref55_line ref55_line_t; repeat' (first | exact Enc.none | exact Enc.some rfl | refine Enc.br ?_ ?_)
noncomputable def ref55_line_o : List AV → Option (Bool × AV) := ocOf (sCons (sList (1 : Nat) pAny) (sCons (sList (1 : Nat) pAny) sNil)) fun (cells, (widths, _)) => ((ref55_line cells widths).isSome, (AV.str ((ref55_line cells widths).getD [])))
theorem ref55_line_c : OcOk Tryz.prog ITryz 60 (ref55_line_o) := ocOk_of fun vv rr hh => by
  obtain ⟨cells, ⟨widths, _⟩⟩ := vv
  obtain ⟨hh1, hh2⟩ := Prod.mk.inj hh
  refine good_pin (p := ref55_line_E1.pin) (good_XF mxTryz (inv0Ok Tryz.prog _) rfl ref55_line_E1_ok Tryz.func60 rfl (by kernel_rfl) ref55_line_E1_lk60 ((ref55_line_x _ _ _ (getD_of_isSome (d := []) hh1)).trans ?_))
  exact congrArg some hh2


noncomputable def EK7_2 : Env := EK7_1.with 60 ref55_line_o

theorem EK7_2_ok : OrcOk Tryz.prog ITryz EK7_2 := EK7_1_ok.with ref55_line_c

/-- The environment of bitemporal/bitemporalref55.table: its loops so far. -/

noncomputable def ref55_table_E0 : Env := EK7_2.fn 73 0 (lsOf []) (lpsOf [])

theorem ref55_table_E0_ok : OrcOk Tryz.prog (ITryz.at 0) ref55_table_E0 := EK7_2_ok.fn

theorem ref55_table_E0_lk35_1 : LoOk Tryz.prog (ITryz.at ref55_table_E0.pin) ref55_table_E0 (loopAt Tryz.f35 1) := loOk_nil (by kernel_rfl)

/- 11 nodes -/
noncomputable def ref55_table_l1_t {T : Type} (names : List AV) (rows : List AV) (widths_n : Nat) (marks : List UInt8) (i : Int) (w : Int) (k : Int) (widths_xs : List AV) (δ : T) (κl : (Int × Int × List AV) → T) (κr : (Int × List AV) → T) : T := br (decide (k < (↑rows.length : Int))) (br (decide ((0 : Int) ≤ k) && decide (k < (↑rows.length : Int))) (br (decide (k.toNat < rows.length) && hasSh1 (Sh.list (1 : Nat)) ((rows.getD k.toNat AV.top).cells.getD (0 : Nat) AV.top)) (br (decide ((0 : Int) ≤ i) && decide (i < (↑((rows.getD k.toNat AV.top).cells.getD (0 : Nat) AV.top).toList.length : Int))) (br (decide (i.toNat < ((rows.getD k.toNat AV.top).cells.getD (0 : Nat) AV.top).toList.length) && hasSh1 Sh.str ((((rows.getD k.toNat AV.top).cells.getD (0 : Nat) AV.top).toList.getD i.toNat AV.top).cells.getD (0 : Nat) AV.top)) (κl (if (↑((((rows.getD k.toNat AV.top).cells.getD (0 : Nat) AV.top).toList.getD i.toNat AV.top).cells.getD (0 : Nat) AV.top).toStr.length : Int) > w then (↑((((rows.getD k.toNat AV.top).cells.getD (0 : Nat) AV.top).toList.getD i.toNat AV.top).cells.getD (0 : Nat) AV.top).toStr.length : Int) else w, IntKind.i64.wrap (k + (1 : Int)), widths_xs)) (δ)) (δ)) (δ)) (δ)) (κr (w, widths_xs))
noncomputable def ref55_table_l1_step (names : List AV) (rows : List AV) (widths_n : Nat) (marks : List UInt8) (i : Int) : (Int × Int × List AV) → Option ((Int × Int × List AV) ⊕ (Int × List AV)) := fun (w, k, widths_xs) => ref55_table_l1_t names rows widths_n marks i w k widths_xs none (fun s => some (.inl s)) (fun p => some (.inr p))
noncomputable def ref55_table_l1_L (names : List AV) (rows : List AV) (widths_n : Nat) (marks : List UInt8) (i : Int) : (Int × Int × List AV) → List AV × List Box := fun (w, k, widths_xs) => ([AV.list (1 : Nat) names, AV.list (1 : Nat) rows, AV.osl 0 0 0 widths_n, AV.str marks, AV.int IntKind.i64 i, AV.int IntKind.i64 w, AV.int IntKind.i64 k], [⟨0, (1 : Nat), (3 : Nat), widths_xs, false, true⟩])
noncomputable def ref55_table_l1_out (names : List AV) (rows : List AV) (widths_n : Nat) (marks : List UInt8) (i : Int) : (Int × List AV) → LR := fun p => (.leaf (Exit.exit (2 : Nat)) [AV.list (1 : Nat) names, AV.list (1 : Nat) rows, AV.osl 0 0 0 widths_n, AV.str marks, AV.int IntKind.i64 i, AV.int IntKind.i64 p.1] [⟨0, (1 : Nat), (3 : Nat), p.2, false, true⟩])
noncomputable abbrev ref55_table_l1_X (vals : List AV) (H : List Box) := XR Tryz.prog ref55_table_E0 [0, 1, 5, 6, 7, 8, 9] [0, 1, 5, 6, 7, 8] [(5, 1, 3)] (loopAt Tryz.f35 1) vals H
theorem ref55_table_l1_r (names : List AV) (rows : List AV) (widths_n : Nat) (marks : List UInt8) (i : Int) (s : Int × Int × List AV) : Enc (encR (ref55_table_l1_L names rows widths_n marks i) (ref55_table_l1_out names rows widths_n marks i)) (ref55_table_l1_step names rows widths_n marks i s) (ref55_table_l1_X (ref55_table_l1_L names rows widths_n marks i s).1 (ref55_table_l1_L names rows widths_n marks i s).2) := by
  obtain ⟨w, k, widths_xs⟩ := s
  have h : ref55_table_l1_X (ref55_table_l1_L names rows widths_n marks i (w, k, widths_xs)).1 (ref55_table_l1_L names rows widths_n marks i (w, k, widths_xs)).2 = ref55_table_l1_t names rows widths_n marks i w k widths_xs none (fun s => some (encR (ref55_table_l1_L names rows widths_n marks i) (ref55_table_l1_out names rows widths_n marks i) (.inl s))) (fun p => some (encR (ref55_table_l1_L names rows widths_n marks i) (ref55_table_l1_out names rows widths_n marks i) (.inr p))) := by kernel_rfl
  rw [h]; unfold ref55_table_l1_step ref55_table_l1_t; repeat' (first | exact Enc.none | exact Enc.some rfl | refine Enc.br ?_ ?_)
noncomputable def ref55_table_l1_lp : Lp := lpOf [0, 1, 5, 6, 7, 8, 9] [0, 1, 5, 6, 7, 8] [(5, 1, 3)] (pCons (pList (1 : Nat) pAny) (pCons (pList (1 : Nat) pAny) (pCons (pOsl (0 : Nat) (0 : Nat) (0 : Nat)) (pCons pStr (pCons (pInt IntKind.i64) (pCons (pInt IntKind.i64) (pCons (pInt IntKind.i64) pNil))))))) (pCons (pBox (0 : Nat) (1 : Nat) (3 : Nat) false true pAny) pNil) fun (names, (rows, (widths_n, (marks, (i, (w, (k, _))))))) (widths_xs, _) => ((Iter (ref55_table_l1_step names rows widths_n marks i) (w, k, widths_xs)).isSome, ref55_table_l1_out names rows widths_n marks i ((Iter (ref55_table_l1_step names rows widths_n marks i) (w, k, widths_xs)).getD (0, [])))
theorem ref55_table_l1_lok : LoopOk Tryz.prog (ITryz.at ref55_table_E0.pin) ref55_table_E0.nt (loopAt Tryz.f35 1) ref55_table_l1_lp := lok_of fun vv bb rr hh => by
  obtain ⟨names, ⟨rows, ⟨widths_n, ⟨marks, ⟨i, ⟨w, ⟨k, _⟩⟩⟩⟩⟩⟩⟩ := vv
  obtain ⟨widths_xs, _⟩ := bb
  obtain ⟨hh1, rfl⟩ := Prod.mk.inj hh
  exact loop_of_XR mxTryz (inv0Ok Tryz.prog _) rfl ref55_table_E0_ok ref55_table_E0_lk35_1 (ref55_table_l1_L names rows widths_n marks i) (ref55_table_l1_out names rows widths_n marks i) (fun p => by simp only [ref55_table_l1_out, LR.eval]; first | (simp; done) | (repeat' split <;> simp)) (ref55_table_l1_r names rows widths_n marks i) (s := (w, k, widths_xs)) (getD_of_isSome hh1)


/-- The environment of bitemporal/bitemporalref55.table: its loops so far. -/

noncomputable def ref55_table_E1 : Env := EK7_2.fn 73 0 (lsOf []) (lpsOf [(8, ref55_table_l1_lp)])

theorem ref55_table_E1_ok : OrcOk Tryz.prog (ITryz.at 0) ref55_table_E1 := EK7_2_ok.fn

theorem ref55_table_E1_lk35_0 : LoOk Tryz.prog (ITryz.at ref55_table_E1.pin) ref55_table_E1 (loopAt Tryz.f35 0) := loOk_all (ls := [loopAt Tryz.f35 1]) (by kernel_rfl) (fun l hl lp hs => by
  simp only [List.mem_cons, List.not_mem_nil, or_false] at hl
  rcases hl with rfl
  · rw [show ref55_table_E1.lp (codeId (loopAt Tryz.f35 1)) = some ref55_table_l1_lp by kernel_rfl] at hs
    simp only [Option.some.injEq] at hs; subst hs; exact ref55_table_l1_lok)

/- 23 nodes -/
noncomputable def ref55_table_l0_v6 (names : List AV) (rows : List AV) (widths_n : Nat) (marks : List UInt8) (i : Int) (widths_xs : List AV) : Option (Int × List AV) := Iter (ref55_table_l1_step names rows widths_n marks i) ((↑((names.getD i.toNat AV.top).cells.getD (0 : Nat) AV.top).toStr.length : Int), (0 : Int), widths_xs)
noncomputable def ref55_table_l0_v5 (names : List AV) (rows : List AV) (widths_n : Nat) (marks : List UInt8) (i : Int) (widths_xs : List AV) : Int × List AV := (ref55_table_l0_v6 names rows widths_n marks i widths_xs).getD ((0 : Int), [])
noncomputable def ref55_table_l0_v3 (names : List AV) (rows : List AV) (widths_n : Nat) (marks : List UInt8) (i : Int) (widths_xs : List AV) : List AV := (ref55_table_l0_v5 names rows widths_n marks i widths_xs).snd
noncomputable def ref55_table_l0_v4 (names : List AV) (rows : List AV) (widths_n : Nat) (marks : List UInt8) (i : Int) (widths_xs : List AV) : Int := (ref55_table_l0_v5 names rows widths_n marks i widths_xs).fst
noncomputable def ref55_table_l0_v2 (names : List AV) (rows : List AV) (widths_n : Nat) (marks : List UInt8) (i : Int) (widths_xs : List AV) : Option (List UInt8) := ref55_repeat [(45 : UInt8)] (ref55_table_l0_v4 names rows widths_n marks i widths_xs)
noncomputable def ref55_table_l0_v0 (names : List AV) (rows : List AV) (widths_n : Nat) (marks : List UInt8) (i : Int) (widths_xs : List AV) : List UInt8 := (ref55_table_l0_v2 names rows widths_n marks i widths_xs).getD []
noncomputable def ref55_table_l0_v1 (names : List AV) (rows : List AV) (widths_n : Nat) (marks : List UInt8) (i : Int) (widths_xs : List AV) : Bool := (ref55_table_l0_v2 names rows widths_n marks i widths_xs).isSome
noncomputable def ref55_table_l0_t {T : Type} (names : List AV) (rows : List AV) (widths_n : Nat) (marks : List UInt8) (i : Int) (widths_xs : List AV) (δ : T) (κl : (Nat × List UInt8 × Int × List AV) → T) (κr : (Nat × List UInt8 × List AV) → T) : T := br (decide (i < (↑names.length : Int))) (br (decide ((0 : Int) ≤ i) && decide (i < (↑names.length : Int))) (br (decide (i.toNat < names.length) && hasSh1 Sh.str ((names.getD i.toNat AV.top).cells.getD (0 : Nat) AV.top)) (br ((ref55_table_l0_v6 names rows widths_n marks i widths_xs).isSome) (br (widths_n == (ref55_table_l0_v3 names rows widths_n marks i widths_xs).length && (decide ((widths_n + (1 : Nat)) * (8 : Nat) ≤ (140737488355328 : Nat)) && decide (widths_n + (1 : Nat) ≤ (4611686018427387904 : Nat)))) (br (decide (i > (0 : Int))) (br (decide (marks.length + (3 : Nat) ≤ (4611686018427387904 : Nat))) (br (ref55_table_l0_v1 names rows widths_n marks i widths_xs) (br (decide ((marks ++ [(45 : UInt8), (43 : UInt8), (45 : UInt8)]).length + (ref55_table_l0_v0 names rows widths_n marks i widths_xs).length ≤ (4611686018427387904 : Nat))) (κl (widths_n + (1 : Nat), marks ++ [(45 : UInt8), (43 : UInt8), (45 : UInt8)] ++ ref55_table_l0_v0 names rows widths_n marks i widths_xs, IntKind.i64.wrap (i + (1 : Int)), ref55_table_l0_v3 names rows widths_n marks i widths_xs ++ [AV.int IntKind.i64 (ref55_table_l0_v4 names rows widths_n marks i widths_xs)])) (δ)) (δ)) (δ)) (br (ref55_table_l0_v1 names rows widths_n marks i widths_xs) (br (decide (marks.length + (ref55_table_l0_v0 names rows widths_n marks i widths_xs).length ≤ (4611686018427387904 : Nat))) (κl (widths_n + (1 : Nat), marks ++ ref55_table_l0_v0 names rows widths_n marks i widths_xs, IntKind.i64.wrap (i + (1 : Int)), ref55_table_l0_v3 names rows widths_n marks i widths_xs ++ [AV.int IntKind.i64 (ref55_table_l0_v4 names rows widths_n marks i widths_xs)])) (δ)) (δ))) (δ)) (δ)) (δ)) (δ)) (κr (widths_n, marks, widths_xs))
noncomputable def ref55_table_l0_step (names : List AV) (rows : List AV) : (Nat × List UInt8 × Int × List AV) → Option ((Nat × List UInt8 × Int × List AV) ⊕ (Nat × List UInt8 × List AV)) := fun (widths_n, marks, i, widths_xs) => ref55_table_l0_t names rows widths_n marks i widths_xs none (fun s => some (.inl s)) (fun p => some (.inr p))
noncomputable def ref55_table_l0_L (names : List AV) (rows : List AV) : (Nat × List UInt8 × Int × List AV) → List AV × List Box := fun (widths_n, marks, i, widths_xs) => ([AV.list (1 : Nat) names, AV.list (1 : Nat) rows, AV.osl 0 0 0 widths_n, AV.str marks, AV.int IntKind.i64 i], [⟨0, (1 : Nat), (3 : Nat), widths_xs, false, true⟩])
noncomputable def ref55_table_l0_out (names : List AV) (rows : List AV) : (Nat × List UInt8 × List AV) → LR := fun p => (.leaf (Exit.exit (0 : Nat)) [AV.list (1 : Nat) names, AV.list (1 : Nat) rows, AV.osl 0 0 0 p.1, AV.str p.2.1] [⟨0, (1 : Nat), (3 : Nat), p.2.2, false, true⟩])
noncomputable abbrev ref55_table_l0_X (vals : List AV) (H : List Box) := XR Tryz.prog ref55_table_E1 [0, 1, 5, 6, 7] [0, 1, 5, 6] [(5, 1, 3)] (loopAt Tryz.f35 0) vals H
theorem ref55_table_l0_r (names : List AV) (rows : List AV) (s : Nat × List UInt8 × Int × List AV) : Enc (encR (ref55_table_l0_L names rows) (ref55_table_l0_out names rows)) (ref55_table_l0_step names rows s) (ref55_table_l0_X (ref55_table_l0_L names rows s).1 (ref55_table_l0_L names rows s).2) := by
  obtain ⟨widths_n, marks, i, widths_xs⟩ := s
  have h : ref55_table_l0_X (ref55_table_l0_L names rows (widths_n, marks, i, widths_xs)).1 (ref55_table_l0_L names rows (widths_n, marks, i, widths_xs)).2 = ref55_table_l0_t names rows widths_n marks i widths_xs none (fun s => some (encR (ref55_table_l0_L names rows) (ref55_table_l0_out names rows) (.inl s))) (fun p => some (encR (ref55_table_l0_L names rows) (ref55_table_l0_out names rows) (.inr p))) := by kernel_rfl
  rw [h]; unfold ref55_table_l0_step ref55_table_l0_t; repeat' (first | exact Enc.none | exact Enc.some rfl | refine Enc.br ?_ ?_)
noncomputable def ref55_table_l0_lp : Lp := lpOf [0, 1, 5, 6, 7] [0, 1, 5, 6] [(5, 1, 3)] (pCons (pList (1 : Nat) pAny) (pCons (pList (1 : Nat) pAny) (pCons (pOsl (0 : Nat) (0 : Nat) (0 : Nat)) (pCons pStr (pCons (pInt IntKind.i64) pNil))))) (pCons (pBox (0 : Nat) (1 : Nat) (3 : Nat) false true pAny) pNil) fun (names, (rows, (widths_n, (marks, (i, _))))) (widths_xs, _) => ((Iter (ref55_table_l0_step names rows) (widths_n, marks, i, widths_xs)).isSome, ref55_table_l0_out names rows ((Iter (ref55_table_l0_step names rows) (widths_n, marks, i, widths_xs)).getD (0, [], [])))
theorem ref55_table_l0_lok : LoopOk Tryz.prog (ITryz.at ref55_table_E1.pin) ref55_table_E1.nt (loopAt Tryz.f35 0) ref55_table_l0_lp := lok_of fun vv bb rr hh => by
  obtain ⟨names, ⟨rows, ⟨widths_n, ⟨marks, ⟨i, _⟩⟩⟩⟩⟩ := vv
  obtain ⟨widths_xs, _⟩ := bb
  obtain ⟨hh1, rfl⟩ := Prod.mk.inj hh
  exact loop_of_XR mxTryz (inv0Ok Tryz.prog _) rfl ref55_table_E1_ok ref55_table_E1_lk35_0 (ref55_table_l0_L names rows) (ref55_table_l0_out names rows) (fun p => by simp only [ref55_table_l0_out, LR.eval]; first | (simp; done) | (repeat' split <;> simp)) (ref55_table_l0_r names rows) (s := (widths_n, marks, i, widths_xs)) (getD_of_isSome hh1)


/-- The environment of bitemporal/bitemporalref55.table: its loops so far. -/

noncomputable def ref55_table_E2 : Env := EK7_2.fn 73 0 (lsOf []) (lpsOf [(8, ref55_table_l1_lp), (4, ref55_table_l0_lp)])

theorem ref55_table_E2_ok : OrcOk Tryz.prog (ITryz.at 0) ref55_table_E2 := EK7_2_ok.fn

theorem ref55_table_E2_lk35_2 : LoOk Tryz.prog (ITryz.at ref55_table_E2.pin) ref55_table_E2 (loopAt Tryz.f35 2) := loOk_nil (by kernel_rfl)

/- 13 nodes -/
noncomputable def ref55_table_l2_t {T : Type} (rows : List AV) (widths_n : Nat) (out : List UInt8) (i : Int) (widths_xs : List AV) (δ : T) (κl : (List UInt8 × Int × List AV) → T) (κr : (List UInt8) → T) : T := br (decide (i < (↑rows.length : Int))) (br (decide ((0 : Int) ≤ i) && decide (i < (↑rows.length : Int))) (br (decide (i.toNat < rows.length) && hasSh1 (Sh.list (1 : Nat)) ((rows.getD i.toNat AV.top).cells.getD (0 : Nat) AV.top)) (br (decide ((0 : Nat) + widths_n ≤ widths_xs.length) && true) (br ((ref55_line ((rows.getD i.toNat AV.top).cells.getD (0 : Nat) AV.top).toList (List.take widths_n (List.drop (0 : Nat) widths_xs))).isSome) (br (decide (out.length + ((ref55_line ((rows.getD i.toNat AV.top).cells.getD (0 : Nat) AV.top).toList (List.take widths_n (List.drop (0 : Nat) widths_xs))).getD []).length ≤ (4611686018427387904 : Nat))) (κl (out ++ (ref55_line ((rows.getD i.toNat AV.top).cells.getD (0 : Nat) AV.top).toList (List.take widths_n (List.drop (0 : Nat) widths_xs))).getD [], IntKind.i64.wrap (i + (1 : Int)), widths_xs)) (δ)) (δ)) (δ)) (δ)) (δ)) (κr (out))
noncomputable def ref55_table_l2_step (rows : List AV) (widths_n : Nat) : (List UInt8 × Int × List AV) → Option ((List UInt8 × Int × List AV) ⊕ (List UInt8)) := fun (out, i, widths_xs) => ref55_table_l2_t rows widths_n out i widths_xs none (fun s => some (.inl s)) (fun p => some (.inr p))
noncomputable def ref55_table_l2_L (rows : List AV) (widths_n : Nat) : (List UInt8 × Int × List AV) → List AV × List Box := fun (out, i, widths_xs) => ([AV.list (1 : Nat) rows, AV.osl 0 0 0 widths_n, AV.str out, AV.int IntKind.i64 i], [⟨0, (1 : Nat), (3 : Nat), widths_xs, false, true⟩])
noncomputable def ref55_table_l2_out (rows : List AV) (widths_n : Nat) : (List UInt8) → LR := fun p => (.leaf (Exit.exit (4 : Nat)) [AV.str p] [])
noncomputable abbrev ref55_table_l2_X (vals : List AV) (H : List Box) := XR Tryz.prog ref55_table_E2 [1, 5, 10, 11] [10] [(5, 1, 3)] (loopAt Tryz.f35 2) vals H
theorem ref55_table_l2_r (rows : List AV) (widths_n : Nat) (s : List UInt8 × Int × List AV) : Enc (encR (ref55_table_l2_L rows widths_n) (ref55_table_l2_out rows widths_n)) (ref55_table_l2_step rows widths_n s) (ref55_table_l2_X (ref55_table_l2_L rows widths_n s).1 (ref55_table_l2_L rows widths_n s).2) := by
  obtain ⟨out, i, widths_xs⟩ := s
  have h : ref55_table_l2_X (ref55_table_l2_L rows widths_n (out, i, widths_xs)).1 (ref55_table_l2_L rows widths_n (out, i, widths_xs)).2 = ref55_table_l2_t rows widths_n out i widths_xs none (fun s => some (encR (ref55_table_l2_L rows widths_n) (ref55_table_l2_out rows widths_n) (.inl s))) (fun p => some (encR (ref55_table_l2_L rows widths_n) (ref55_table_l2_out rows widths_n) (.inr p))) := by kernel_rfl
  rw [h]; unfold ref55_table_l2_step ref55_table_l2_t; repeat' (first | exact Enc.none | exact Enc.some rfl | refine Enc.br ?_ ?_)
noncomputable def ref55_table_l2_lp : Lp := lpOf [1, 5, 10, 11] [10] [(5, 1, 3)] (pCons (pList (1 : Nat) pAny) (pCons (pOsl (0 : Nat) (0 : Nat) (0 : Nat)) (pCons pStr (pCons (pInt IntKind.i64) pNil)))) (pCons (pBox (0 : Nat) (1 : Nat) (3 : Nat) false true pAny) pNil) fun (rows, (widths_n, (out, (i, _)))) (widths_xs, _) => ((Iter (ref55_table_l2_step rows widths_n) (out, i, widths_xs)).isSome, ref55_table_l2_out rows widths_n ((Iter (ref55_table_l2_step rows widths_n) (out, i, widths_xs)).getD []))
theorem ref55_table_l2_lok : LoopOk Tryz.prog (ITryz.at ref55_table_E2.pin) ref55_table_E2.nt (loopAt Tryz.f35 2) ref55_table_l2_lp := lok_of fun vv bb rr hh => by
  obtain ⟨rows, ⟨widths_n, ⟨out, ⟨i, _⟩⟩⟩⟩ := vv
  obtain ⟨widths_xs, _⟩ := bb
  obtain ⟨hh1, rfl⟩ := Prod.mk.inj hh
  exact loop_of_XR mxTryz (inv0Ok Tryz.prog _) rfl ref55_table_E2_ok ref55_table_E2_lk35_2 (ref55_table_l2_L rows widths_n) (ref55_table_l2_out rows widths_n) (fun p => by simp only [ref55_table_l2_out, LR.eval]; first | (simp; done) | (repeat' split <;> simp)) (ref55_table_l2_r rows widths_n) (s := (out, i, widths_xs)) (getD_of_isSome hh1)


/-- The environment of bitemporal/bitemporalref55.table: its loops so far. -/

noncomputable def ref55_table_E3 : Env := EK7_2.fn 73 0 (lsOf []) (lpsOf [(8, ref55_table_l1_lp), (4, ref55_table_l0_lp), (17, ref55_table_l2_lp)])

theorem ref55_table_E3_ok : OrcOk Tryz.prog (ITryz.at 0) ref55_table_E3 := EK7_2_ok.fn

theorem ref55_table_E3_lk35 : LoOk Tryz.prog (ITryz.at ref55_table_E3.pin) ref55_table_E3 (Tryz.f35.body.getD .skip) := loOk_all (ls := [loopAt Tryz.f35 0, loopAt Tryz.f35 1, loopAt Tryz.f35 2]) (by kernel_rfl) (fun l hl lp hs => by
  simp only [List.mem_cons, List.not_mem_nil, or_false] at hl
  rcases hl with rfl | rfl | rfl
  · rw [show ref55_table_E3.lp (codeId (loopAt Tryz.f35 0)) = some ref55_table_l0_lp by kernel_rfl] at hs
    simp only [Option.some.injEq] at hs; subst hs; exact ref55_table_l0_lok
  · rw [show ref55_table_E3.lp (codeId (loopAt Tryz.f35 1)) = some ref55_table_l1_lp by kernel_rfl] at hs
    simp only [Option.some.injEq] at hs; subst hs; exact ref55_table_l1_lok
  · rw [show ref55_table_E3.lp (codeId (loopAt Tryz.f35 2)) = some ref55_table_l2_lp by kernel_rfl] at hs
    simp only [Option.some.injEq] at hs; subst hs; exact ref55_table_l2_lok)

/- 13 nodes -/
noncomputable def ref55_table_v9 (names : List AV) (rows : List AV) : Option (Nat × List UInt8 × List AV) := Iter (ref55_table_l0_step names rows) ((0 : Nat), [], (0 : Int), [])
noncomputable def ref55_table_v8 (names : List AV) (rows : List AV) : Nat × List UInt8 × List AV := (ref55_table_v9 names rows).getD ((0 : Nat), [], [])
noncomputable def ref55_table_v5 (names : List AV) (rows : List AV) : Nat := (ref55_table_v8 names rows).fst
noncomputable def ref55_table_v7 (names : List AV) (rows : List AV) : List UInt8 × List AV := (ref55_table_v8 names rows).snd
noncomputable def ref55_table_v4 (names : List AV) (rows : List AV) : List AV := (ref55_table_v7 names rows).snd
noncomputable def ref55_table_v6 (names : List AV) (rows : List AV) : List UInt8 := (ref55_table_v7 names rows).fst
noncomputable def ref55_table_v3 (names : List AV) (rows : List AV) : Option (List UInt8) := ref55_line names (List.take (ref55_table_v5 names rows) (List.drop (0 : Nat) (ref55_table_v4 names rows)))
noncomputable def ref55_table_v2 (names : List AV) (rows : List AV) : List UInt8 := (ref55_table_v3 names rows).getD []
noncomputable def ref55_table_v1 (names : List AV) (rows : List AV) : List UInt8 := ref55_table_v2 names rows ++ ref55_table_v6 names rows
noncomputable def ref55_table_v0 (names : List AV) (rows : List AV) : Option (List UInt8) := Iter (ref55_table_l2_step rows (ref55_table_v5 names rows)) (ref55_table_v1 names rows ++ [(10 : UInt8)], (0 : Int), ref55_table_v4 names rows)
noncomputable def ref55_table_t {T : Type} (names : List AV) (rows : List AV) (δ : T) (κ : List UInt8 → T) : T := br ((ref55_table_v9 names rows).isSome) (br (decide ((0 : Nat) + ref55_table_v5 names rows ≤ (ref55_table_v4 names rows).length) && true) (br ((ref55_table_v3 names rows).isSome) (br (decide ((ref55_table_v2 names rows).length + (ref55_table_v6 names rows).length ≤ (4611686018427387904 : Nat))) (br (decide ((ref55_table_v1 names rows).length + (1 : Nat) ≤ (4611686018427387904 : Nat))) (br ((ref55_table_v0 names rows).isSome) (κ ((ref55_table_v0 names rows).getD [])) (δ)) (δ)) (δ)) (δ)) (δ)) (δ)
noncomputable def ref55_table (names : List AV) (rows : List AV) : Option (List UInt8) := ref55_table_t names rows none some
theorem ref55_table_x (names : List AV) (rows : List AV) : Enc (fun (p : List UInt8) => ((AV.str p) : AV)) (ref55_table names rows) (XF Tryz.prog ref55_table_E3 Tryz.f35 (Tryz.f35.body.getD .skip) [AV.list (1 : Nat) names, AV.list (1 : Nat) rows]) := by
  have h : XF Tryz.prog ref55_table_E3 Tryz.f35 (Tryz.f35.body.getD .skip) [AV.list (1 : Nat) names, AV.list (1 : Nat) rows] = ref55_table_t names rows none (fun (p : List UInt8) => some ((AV.str p) : AV)) := by kernel_rfl
  rw [h]; unfold ref55_table ref55_table_t; repeat' (first | exact Enc.none | exact Enc.some rfl | refine Enc.br ?_ ?_)
noncomputable def ref55_table_o : List AV → Option (Bool × AV) := ocOf (sCons (sList (1 : Nat) pAny) (sCons (sList (1 : Nat) pAny) sNil)) fun (names, (rows, _)) => ((ref55_table names rows).isSome, (AV.str ((ref55_table names rows).getD [])))
theorem ref55_table_c : OcOk Tryz.prog ITryz 35 (ref55_table_o) := ocOk_of fun vv rr hh => by
  obtain ⟨names, ⟨rows, _⟩⟩ := vv
  obtain ⟨hh1, hh2⟩ := Prod.mk.inj hh
  refine good_pin (p := ref55_table_E3.pin) (good_XF mxTryz (inv0Ok Tryz.prog _) rfl ref55_table_E3_ok Tryz.func35 rfl (by kernel_rfl) ref55_table_E3_lk35 ((ref55_table_x _ _ _ (getD_of_isSome (d := []) hh1)).trans ?_))
  exact congrArg some hh2


noncomputable def EK7_3 : Env := EK7_2.with 35 ref55_table_o

theorem EK7_3_ok : OrcOk Tryz.prog ITryz EK7_3 := EK7_2_ok.with ref55_table_c

/-- The environment of bitemporal/bitemporalref55.cells: its loops so far. -/

noncomputable def ref55_cells_M_E0 : Env := EK7_3.fn 29 0 (lsOf []) (lpsOf [])

theorem ref55_cells_M_E0_ok : OrcOk Tryz.prog (ITryz.at 0) ref55_cells_M_E0 := EK7_3_ok.fn

theorem ref55_cells_M_E0_lk33_0 : LoOk Tryz.prog (ITryz.at ref55_cells_M_E0.pin) ref55_cells_M_E0 (loopAt Tryz.f33 0) := loOk_nil (by kernel_rfl)

/- 15 nodes -/
noncomputable def ref55_cells_M_l0_v0 (row : List AV) (i : Int) : Option (List UInt8) := ref07_Literal ((row.getD i.toNat AV.top).cells.getD (0 : Nat) AV.top).toInt ((row.getD i.toNat AV.top).cells.getD (1 : Nat) AV.top).toInt ((row.getD i.toNat AV.top).cells.getD (2 : Nat) AV.top).toStr
noncomputable def ref55_cells_M_l0_t {T : Type} (row : List AV) (n : Int) (out_n : Nat) (i : Int) (out_xs : List AV) (δ : T) (κl : (Nat × Int × List AV) → T) (κr : (Nat × List AV) → T) : T := br (decide (i < n)) (br (decide (i < (↑row.length : Int))) (br (decide ((0 : Int) ≤ i) && decide (i < (↑row.length : Int))) (br (decide (i.toNat < row.length) && ((row.getD i.toNat AV.top).cells.length == (3 : Nat) && hasShs [Sh.int IntKind.i64, Sh.int IntKind.i64, Sh.str] (row.getD i.toNat AV.top).cells (0 : Nat))) (br ((ref55_cells_M_l0_v0 row i).isSome) (br (out_n == out_xs.length && (decide ((out_n + (1 : Nat)) * (16 : Nat) ≤ (140737488355328 : Nat)) && decide (out_n + (1 : Nat) ≤ (4611686018427387904 : Nat)))) (κl (out_n + (1 : Nat), IntKind.i64.wrap (i + (1 : Int)), out_xs ++ [AV.str ((ref55_cells_M_l0_v0 row i).getD [])])) (δ)) (δ)) (δ)) (δ)) (br (out_n == out_xs.length && (decide ((out_n + (1 : Nat)) * (16 : Nat) ≤ (140737488355328 : Nat)) && decide (out_n + (1 : Nat) ≤ (4611686018427387904 : Nat)))) (κl (out_n + (1 : Nat), IntKind.i64.wrap (i + (1 : Int)), out_xs ++ [AV.str []])) (δ))) (κr (out_n, out_xs))
noncomputable def ref55_cells_M_l0_step (row : List AV) (n : Int) : (Nat × Int × List AV) → Option ((Nat × Int × List AV) ⊕ (Nat × List AV)) := fun (out_n, i, out_xs) => ref55_cells_M_l0_t row n out_n i out_xs none (fun s => some (.inl s)) (fun p => some (.inr p))
noncomputable def ref55_cells_M_l0_L (row : List AV) (n : Int) : (Nat × Int × List AV) → List AV × List Box := fun (out_n, i, out_xs) => ([AV.list (3 : Nat) row, AV.int IntKind.i64 n, AV.osl 0 0 0 out_n, AV.int IntKind.i64 i], [⟨0, (1 : Nat), (9 : Nat), out_xs, false, true⟩])
noncomputable def ref55_cells_M_l0_out (row : List AV) (n : Int) : (Nat × List AV) → LR := fun p => (.leaf (Exit.exit (0 : Nat)) [AV.osl 0 0 0 p.1] [⟨0, (1 : Nat), (9 : Nat), p.2, false, true⟩])
noncomputable abbrev ref55_cells_M_l0_X (vals : List AV) (H : List Box) := XR Tryz.prog ref55_cells_M_E0 [0, 1, 5, 6] [5] [(5, 1, 9)] (loopAt Tryz.f33 0) vals H
theorem ref55_cells_M_l0_r (row : List AV) (n : Int) (s : Nat × Int × List AV) : Enc (encR (ref55_cells_M_l0_L row n) (ref55_cells_M_l0_out row n)) (ref55_cells_M_l0_step row n s) (ref55_cells_M_l0_X (ref55_cells_M_l0_L row n s).1 (ref55_cells_M_l0_L row n s).2) := by
  obtain ⟨out_n, i, out_xs⟩ := s
  have h : ref55_cells_M_l0_X (ref55_cells_M_l0_L row n (out_n, i, out_xs)).1 (ref55_cells_M_l0_L row n (out_n, i, out_xs)).2 = ref55_cells_M_l0_t row n out_n i out_xs none (fun s => some (encR (ref55_cells_M_l0_L row n) (ref55_cells_M_l0_out row n) (.inl s))) (fun p => some (encR (ref55_cells_M_l0_L row n) (ref55_cells_M_l0_out row n) (.inr p))) := by kernel_rfl
  rw [h]; unfold ref55_cells_M_l0_step ref55_cells_M_l0_t; repeat' (first | exact Enc.none | exact Enc.some rfl | refine Enc.br ?_ ?_)
noncomputable def ref55_cells_M_l0_lp : Lp := lpOf [0, 1, 5, 6] [5] [(5, 1, 9)] (pCons (pList (3 : Nat) pAny) (pCons (pInt IntKind.i64) (pCons (pOsl (0 : Nat) (0 : Nat) (0 : Nat)) (pCons (pInt IntKind.i64) pNil)))) (pCons (pBox (0 : Nat) (1 : Nat) (9 : Nat) false true pAny) pNil) fun (row, (n, (out_n, (i, _)))) (out_xs, _) => ((Iter (ref55_cells_M_l0_step row n) (out_n, i, out_xs)).isSome, ref55_cells_M_l0_out row n ((Iter (ref55_cells_M_l0_step row n) (out_n, i, out_xs)).getD (0, [])))
theorem ref55_cells_M_l0_lok : LoopOk Tryz.prog (ITryz.at ref55_cells_M_E0.pin) ref55_cells_M_E0.nt (loopAt Tryz.f33 0) ref55_cells_M_l0_lp := lok_of fun vv bb rr hh => by
  obtain ⟨row, ⟨n, ⟨out_n, ⟨i, _⟩⟩⟩⟩ := vv
  obtain ⟨out_xs, _⟩ := bb
  obtain ⟨hh1, rfl⟩ := Prod.mk.inj hh
  exact loop_of_XR mxTryz (inv0Ok Tryz.prog _) rfl ref55_cells_M_E0_ok ref55_cells_M_E0_lk33_0 (ref55_cells_M_l0_L row n) (ref55_cells_M_l0_out row n) (fun p => by simp only [ref55_cells_M_l0_out, LR.eval]; first | (simp; done) | (repeat' split <;> simp)) (ref55_cells_M_l0_r row n) (s := (out_n, i, out_xs)) (getD_of_isSome hh1)


/-- The environment of bitemporal/bitemporalref55.cells: its loops so far. -/

noncomputable def ref55_cells_M_E1 : Env := EK7_3.fn 29 0 (lsOf []) (lpsOf [(3, ref55_cells_M_l0_lp)])

theorem ref55_cells_M_E1_ok : OrcOk Tryz.prog (ITryz.at 0) ref55_cells_M_E1 := EK7_3_ok.fn

theorem ref55_cells_M_E1_lk33 : LoOk Tryz.prog (ITryz.at ref55_cells_M_E1.pin) ref55_cells_M_E1 (Tryz.f33.body.getD .skip) := loOk_all (ls := [loopAt Tryz.f33 0]) (by kernel_rfl) (fun l hl lp hs => by
  simp only [List.mem_cons, List.not_mem_nil, or_false] at hl
  rcases hl with rfl
  · rw [show ref55_cells_M_E1.lp (codeId (loopAt Tryz.f33 0)) = some ref55_cells_M_l0_lp by kernel_rfl] at hs
    simp only [Option.some.injEq] at hs; subst hs; exact ref55_cells_M_l0_lok)

/- 3 nodes -/
noncomputable def ref55_cells_M_v0 (row : List AV) (n : Int) : Nat × List AV := (Iter (ref55_cells_M_l0_step row n) ((0 : Nat), (0 : Int), [])).getD ((0 : Nat), [])
noncomputable def ref55_cells_M_t {T : Type} (row : List AV) (n : Int) (δ : T) (κ : Nat × List AV → T) : T := br ((Iter (ref55_cells_M_l0_step row n) ((0 : Nat), (0 : Int), [])).isSome) (κ ((ref55_cells_M_v0 row n).fst, (ref55_cells_M_v0 row n).snd)) (δ)
noncomputable def ref55_cells_M (row : List AV) (n : Int) : Option (Nat × List AV) := ref55_cells_M_t row n none some
theorem ref55_cells_M_x (row : List AV) (n : Int) : Enc (fun (p : Nat × List AV) => (((AV.osl 0 0 0 p.1, ([⟨0, (1 : Nat), (9 : Nat), p.2, false, true⟩] : List Box))) : (AV × List Box))) (ref55_cells_M row n) (XFM Tryz.prog ref55_cells_M_E1 Tryz.f33 (Tryz.f33.body.getD .skip) [AV.list (3 : Nat) row, AV.int IntKind.i64 n] []) := by
  have h : XFM Tryz.prog ref55_cells_M_E1 Tryz.f33 (Tryz.f33.body.getD .skip) [AV.list (3 : Nat) row, AV.int IntKind.i64 n] [] = ref55_cells_M_t row n none (fun (p : Nat × List AV) => some (((AV.osl 0 0 0 p.1, ([⟨0, (1 : Nat), (9 : Nat), p.2, false, true⟩] : List Box))) : (AV × List Box))) := by kernel_rfl
  rw [h]; unfold ref55_cells_M ref55_cells_M_t; repeat' (first | exact Enc.none | exact Enc.some rfl | refine Enc.br ?_ ?_)
noncomputable def ref55_cells_M_o : List AV → List Box → Option (Bool × AV × List Box) := omOf (sCons (sList (3 : Nat) pAny) (sCons (sEq (pInt IntKind.i64)) sNil)) pNil fun (row, (n, _)) _ => ((ref55_cells_M row n).isSome, ((AV.osl 0 0 0 ((ref55_cells_M row n).getD (0, [])).1, ([⟨0, (1 : Nat), (9 : Nat), ((ref55_cells_M row n).getD (0, [])).2, false, true⟩] : List Box))))
theorem ref55_cells_M_c : OmOk Tryz.prog ITryz 33 (ref55_cells_M_o) := omOk_of fun vv bb rr hh' hh => by
  obtain ⟨row, ⟨n, _⟩⟩ := vv
  obtain ⟨hh1, hh2⟩ := Prod.mk.inj hh
  refine goodM_pin (p := ref55_cells_M_E1.pin) (goodM_XFM mxTryz (inv0Ok Tryz.prog _) rfl ref55_cells_M_E1_ok rfl Tryz.func33 rfl (by kernel_rfl) ref55_cells_M_E1_lk33 ((ref55_cells_M_x _ _ _ (getD_of_isSome (d := (0, [])) hh1)).trans ?_))
  exact congrArg some hh2


noncomputable def EK7_4 : Env := EK7_3.withM 33 ref55_cells_M_o

theorem EK7_4_ok : OrcOk Tryz.prog ITryz EK7_4 := EK7_3_ok.withM ref55_cells_M_c

/-- The environment of bitemporal/bitemporalref55.names: its loops so far. -/

noncomputable def ref55_names_M_E0 : Env := EK7_4.fn 21 0 (lsOf []) (lpsOf [])

theorem ref55_names_M_E0_ok : OrcOk Tryz.prog (ITryz.at 0) ref55_names_M_E0 := EK7_4_ok.fn

theorem ref55_names_M_E0_lk32_0 : LoOk Tryz.prog (ITryz.at ref55_names_M_E0.pin) ref55_names_M_E0 (loopAt Tryz.f32 0) := loOk_nil (by kernel_rfl)

/- 9 nodes -/
noncomputable def ref55_names_M_l0_t {T : Type} (l : List AV) (out_n : Nat) (i : Int) (out_xs : List AV) (δ : T) (κl : (Nat × Int × List AV) → T) (κr : (Nat × List AV) → T) : T := br (decide (i < (↑l.length : Int))) (br (decide ((0 : Int) ≤ i) && decide (i < (↑l.length : Int))) (br (decide (i.toNat < l.length) && hasSh1 Sh.str ((l.getD i.toNat AV.top).cells.getD (0 : Nat) AV.top)) (br (out_n == out_xs.length && (decide ((out_n + (1 : Nat)) * (16 : Nat) ≤ (140737488355328 : Nat)) && decide (out_n + (1 : Nat) ≤ (4611686018427387904 : Nat)))) (κl (out_n + (1 : Nat), IntKind.i64.wrap (i + (1 : Int)), out_xs ++ [AV.str ((l.getD i.toNat AV.top).cells.getD (0 : Nat) AV.top).toStr])) (δ)) (δ)) (δ)) (κr (out_n, out_xs))
noncomputable def ref55_names_M_l0_step (l : List AV) : (Nat × Int × List AV) → Option ((Nat × Int × List AV) ⊕ (Nat × List AV)) := fun (out_n, i, out_xs) => ref55_names_M_l0_t l out_n i out_xs none (fun s => some (.inl s)) (fun p => some (.inr p))
noncomputable def ref55_names_M_l0_L (l : List AV) : (Nat × Int × List AV) → List AV × List Box := fun (out_n, i, out_xs) => ([AV.list (3 : Nat) l, AV.osl 0 0 0 out_n, AV.int IntKind.i64 i], [⟨0, (1 : Nat), (9 : Nat), out_xs, false, true⟩])
noncomputable def ref55_names_M_l0_out (l : List AV) : (Nat × List AV) → LR := fun p => (.leaf (Exit.exit (0 : Nat)) [AV.osl 0 0 0 p.1] [⟨0, (1 : Nat), (9 : Nat), p.2, false, true⟩])
noncomputable abbrev ref55_names_M_l0_X (vals : List AV) (H : List Box) := XR Tryz.prog ref55_names_M_E0 [0, 3, 4] [3] [(3, 1, 9)] (loopAt Tryz.f32 0) vals H
theorem ref55_names_M_l0_r (l : List AV) (s : Nat × Int × List AV) : Enc (encR (ref55_names_M_l0_L l) (ref55_names_M_l0_out l)) (ref55_names_M_l0_step l s) (ref55_names_M_l0_X (ref55_names_M_l0_L l s).1 (ref55_names_M_l0_L l s).2) := by
  obtain ⟨out_n, i, out_xs⟩ := s
  have h : ref55_names_M_l0_X (ref55_names_M_l0_L l (out_n, i, out_xs)).1 (ref55_names_M_l0_L l (out_n, i, out_xs)).2 = ref55_names_M_l0_t l out_n i out_xs none (fun s => some (encR (ref55_names_M_l0_L l) (ref55_names_M_l0_out l) (.inl s))) (fun p => some (encR (ref55_names_M_l0_L l) (ref55_names_M_l0_out l) (.inr p))) := by kernel_rfl
  rw [h]; unfold ref55_names_M_l0_step ref55_names_M_l0_t; repeat' (first | exact Enc.none | exact Enc.some rfl | refine Enc.br ?_ ?_)
noncomputable def ref55_names_M_l0_lp : Lp := lpOf [0, 3, 4] [3] [(3, 1, 9)] (pCons (pList (3 : Nat) pAny) (pCons (pOsl (0 : Nat) (0 : Nat) (0 : Nat)) (pCons (pInt IntKind.i64) pNil))) (pCons (pBox (0 : Nat) (1 : Nat) (9 : Nat) false true pAny) pNil) fun (l, (out_n, (i, _))) (out_xs, _) => ((Iter (ref55_names_M_l0_step l) (out_n, i, out_xs)).isSome, ref55_names_M_l0_out l ((Iter (ref55_names_M_l0_step l) (out_n, i, out_xs)).getD (0, [])))
theorem ref55_names_M_l0_lok : LoopOk Tryz.prog (ITryz.at ref55_names_M_E0.pin) ref55_names_M_E0.nt (loopAt Tryz.f32 0) ref55_names_M_l0_lp := lok_of fun vv bb rr hh => by
  obtain ⟨l, ⟨out_n, ⟨i, _⟩⟩⟩ := vv
  obtain ⟨out_xs, _⟩ := bb
  obtain ⟨hh1, rfl⟩ := Prod.mk.inj hh
  exact loop_of_XR mxTryz (inv0Ok Tryz.prog _) rfl ref55_names_M_E0_ok ref55_names_M_E0_lk32_0 (ref55_names_M_l0_L l) (ref55_names_M_l0_out l) (fun p => by simp only [ref55_names_M_l0_out, LR.eval]; first | (simp; done) | (repeat' split <;> simp)) (ref55_names_M_l0_r l) (s := (out_n, i, out_xs)) (getD_of_isSome hh1)


/-- The environment of bitemporal/bitemporalref55.names: its loops so far. -/

noncomputable def ref55_names_M_E1 : Env := EK7_4.fn 21 0 (lsOf []) (lpsOf [(3, ref55_names_M_l0_lp)])

theorem ref55_names_M_E1_ok : OrcOk Tryz.prog (ITryz.at 0) ref55_names_M_E1 := EK7_4_ok.fn

theorem ref55_names_M_E1_lk32 : LoOk Tryz.prog (ITryz.at ref55_names_M_E1.pin) ref55_names_M_E1 (Tryz.f32.body.getD .skip) := loOk_all (ls := [loopAt Tryz.f32 0]) (by kernel_rfl) (fun l hl lp hs => by
  simp only [List.mem_cons, List.not_mem_nil, or_false] at hl
  rcases hl with rfl
  · rw [show ref55_names_M_E1.lp (codeId (loopAt Tryz.f32 0)) = some ref55_names_M_l0_lp by kernel_rfl] at hs
    simp only [Option.some.injEq] at hs; subst hs; exact ref55_names_M_l0_lok)

/- 3 nodes -/
noncomputable def ref55_names_M_v0 (l : List AV) : Nat × List AV := (Iter (ref55_names_M_l0_step l) ((0 : Nat), (0 : Int), [])).getD ((0 : Nat), [])
noncomputable def ref55_names_M_t {T : Type} (l : List AV) (δ : T) (κ : Nat × List AV → T) : T := br ((Iter (ref55_names_M_l0_step l) ((0 : Nat), (0 : Int), [])).isSome) (κ ((ref55_names_M_v0 l).fst, (ref55_names_M_v0 l).snd)) (δ)
noncomputable def ref55_names_M (l : List AV) : Option (Nat × List AV) := ref55_names_M_t l none some
theorem ref55_names_M_x (l : List AV) : Enc (fun (p : Nat × List AV) => (((AV.osl 0 0 0 p.1, ([⟨0, (1 : Nat), (9 : Nat), p.2, false, true⟩] : List Box))) : (AV × List Box))) (ref55_names_M l) (XFM Tryz.prog ref55_names_M_E1 Tryz.f32 (Tryz.f32.body.getD .skip) [AV.list (3 : Nat) l] []) := by
  have h : XFM Tryz.prog ref55_names_M_E1 Tryz.f32 (Tryz.f32.body.getD .skip) [AV.list (3 : Nat) l] [] = ref55_names_M_t l none (fun (p : Nat × List AV) => some (((AV.osl 0 0 0 p.1, ([⟨0, (1 : Nat), (9 : Nat), p.2, false, true⟩] : List Box))) : (AV × List Box))) := by kernel_rfl
  rw [h]; unfold ref55_names_M ref55_names_M_t; repeat' (first | exact Enc.none | exact Enc.some rfl | refine Enc.br ?_ ?_)
noncomputable def ref55_names_M_o : List AV → List Box → Option (Bool × AV × List Box) := omOf (sCons (sList (3 : Nat) pAny) sNil) pNil fun (l, _) _ => ((ref55_names_M l).isSome, ((AV.osl 0 0 0 ((ref55_names_M l).getD (0, [])).1, ([⟨0, (1 : Nat), (9 : Nat), ((ref55_names_M l).getD (0, [])).2, false, true⟩] : List Box))))
theorem ref55_names_M_c : OmOk Tryz.prog ITryz 32 (ref55_names_M_o) := omOk_of fun vv bb rr hh' hh => by
  obtain ⟨l, _⟩ := vv
  obtain ⟨hh1, hh2⟩ := Prod.mk.inj hh
  refine goodM_pin (p := ref55_names_M_E1.pin) (goodM_XFM mxTryz (inv0Ok Tryz.prog _) rfl ref55_names_M_E1_ok rfl Tryz.func32 rfl (by kernel_rfl) ref55_names_M_E1_lk32 ((ref55_names_M_x _ _ (getD_of_isSome (d := (0, [])) hh1)).trans ?_))
  exact congrArg some hh2


noncomputable def EK7_5 : Env := EK7_4.withM 32 ref55_names_M_o

theorem EK7_5_ok : OrcOk Tryz.prog ITryz EK7_5 := EK7_4_ok.withM ref55_names_M_c

/-- The environment of bitemporal/bitemporalref55.done: its loops so far. -/

noncomputable def ref55_done_E0 : Env := EK7_5.fn 24 0 (lsOf []) (lpsOf [])

theorem ref55_done_E0_ok : OrcOk Tryz.prog (ITryz.at 0) ref55_done_E0 := EK7_5_ok.fn

theorem ref55_done_E0_lk31 : LoOk Tryz.prog (ITryz.at ref55_done_E0.pin) ref55_done_E0 (Tryz.f31.body.getD .skip) := loOk_nil (by kernel_rfl)

/- 27 nodes -/
noncomputable def ref55_done_v0 (r_n : Int) : List UInt8 := [(111 : UInt8), (107 : UInt8), (44 : UInt8), (32 : UInt8), (99 : UInt8), (111 : UInt8), (117 : UInt8), (110 : UInt8), (116 : UInt8), (32 : UInt8)] ++ (ref07_Number r_n).getD []
noncomputable def ref55_done_v2 (r_tm : Int) : List UInt8 := [(111 : UInt8), (107 : UInt8), (44 : UInt8), (32 : UInt8), (116 : UInt8), (105 : UInt8), (109 : UInt8), (101 : UInt8), (32 : UInt8)] ++ (ref07_Number r_tm).getD []
noncomputable def ref55_done_v3 (r_n : Int) : List UInt8 := ref55_done_v0 r_n ++ [(44 : UInt8), (32 : UInt8), (116 : UInt8), (105 : UInt8), (109 : UInt8), (101 : UInt8), (32 : UInt8)]
noncomputable def ref55_done_v1 (r_n : Int) (r_tm : Int) : List UInt8 := ref55_done_v3 r_n ++ (ref07_Number r_tm).getD []
noncomputable def ref55_done_t {T : Type} (r_c : List AV) (r_fs : List AV) (r_n : Int) (r_tm : Int) (δ : T) (κ : List UInt8 → T) : T := br (r_n != (0 : Int)) (br ((ref07_Number r_n).isSome) (br (decide ((10 : Nat) + ((ref07_Number r_n).getD []).length ≤ (4611686018427387904 : Nat))) (br (r_tm != (0 : Int)) (br (decide ((ref55_done_v0 r_n).length + (7 : Nat) ≤ (4611686018427387904 : Nat))) (br ((ref07_Number r_tm).isSome) (br (decide ((ref55_done_v3 r_n).length + ((ref07_Number r_tm).getD []).length ≤ (4611686018427387904 : Nat))) (br (decide ((ref55_done_v1 r_n r_tm).length + (1 : Nat) ≤ (4611686018427387904 : Nat))) (κ (ref55_done_v1 r_n r_tm ++ [(10 : UInt8)])) (δ)) (δ)) (δ)) (δ)) (br (decide ((ref55_done_v0 r_n).length + (1 : Nat) ≤ (4611686018427387904 : Nat))) (κ (ref55_done_v0 r_n ++ [(10 : UInt8)])) (δ))) (δ)) (δ)) (br (r_tm != (0 : Int)) (br ((ref07_Number r_tm).isSome) (br (decide ((9 : Nat) + ((ref07_Number r_tm).getD []).length ≤ (4611686018427387904 : Nat))) (br (decide ((ref55_done_v2 r_tm).length + (1 : Nat) ≤ (4611686018427387904 : Nat))) (κ (ref55_done_v2 r_tm ++ [(10 : UInt8)])) (δ)) (δ)) (δ)) (κ ([(111 : UInt8), (107 : UInt8), (10 : UInt8)])))
noncomputable def ref55_done (r_c : List AV) (r_fs : List AV) (r_n : Int) (r_tm : Int) : Option (List UInt8) := ref55_done_t r_c r_fs r_n r_tm none some
theorem ref55_done_x (r_c : List AV) (r_fs : List AV) (r_n : Int) (r_tm : Int) : Enc (fun (p : List UInt8) => ((AV.str p) : AV)) (ref55_done r_c r_fs r_n r_tm) (XF Tryz.prog ref55_done_E0 Tryz.f31 (Tryz.f31.body.getD .skip) [AV.agg [AV.list (3 : Nat) r_c, AV.list (3 : Nat) r_fs, AV.int IntKind.i64 r_n, AV.int IntKind.i64 r_tm]]) := by
  have h : XF Tryz.prog ref55_done_E0 Tryz.f31 (Tryz.f31.body.getD .skip) [AV.agg [AV.list (3 : Nat) r_c, AV.list (3 : Nat) r_fs, AV.int IntKind.i64 r_n, AV.int IntKind.i64 r_tm]] = ref55_done_t r_c r_fs r_n r_tm none (fun (p : List UInt8) => some ((AV.str p) : AV)) := by kernel_rfl
  rw [h]; unfold ref55_done ref55_done_t; repeat' (first | exact Enc.none | exact Enc.some rfl | refine Enc.br ?_ ?_)
noncomputable def ref55_done_o : List AV → Option (Bool × AV) := ocOf (sCons (sAgg (sCons (sList (3 : Nat) pAny) (sCons (sList (3 : Nat) pAny) (sCons (sEq (pInt IntKind.i64)) (sCons (sEq (pInt IntKind.i64)) sNil))))) sNil) fun ((r_c, (r_fs, (r_n, (r_tm, _)))), _) => ((ref55_done r_c r_fs r_n r_tm).isSome, (AV.str ((ref55_done r_c r_fs r_n r_tm).getD [])))
theorem ref55_done_c : OcOk Tryz.prog ITryz 31 (ref55_done_o) := ocOk_of fun vv rr hh => by
  obtain ⟨⟨r_c, ⟨r_fs, ⟨r_n, ⟨r_tm, _⟩⟩⟩⟩, _⟩ := vv
  obtain ⟨hh1, hh2⟩ := Prod.mk.inj hh
  refine good_pin (p := ref55_done_E0.pin) (good_XF mxTryz (inv0Ok Tryz.prog _) rfl ref55_done_E0_ok Tryz.func31 rfl (by kernel_rfl) ref55_done_E0_lk31 ((ref55_done_x _ _ _ _ _ (getD_of_isSome (d := []) hh1)).trans ?_))
  exact congrArg some hh2


noncomputable def EK7_6 : Env := EK7_5.with 31 ref55_done_o

theorem EK7_6_ok : OrcOk Tryz.prog ITryz EK7_6 := EK7_5_ok.with ref55_done_c

noncomputable abbrev EK7 : Env := EK7_6

theorem EK7_ok : OrcOk Tryz.prog ITryz EK7 := EK7_6_ok

end Go.Sim.M
