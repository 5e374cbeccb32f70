/- Functions of the program as the executor found them: printed by program, checked by the kernel. -/
import Derived.Test.YtpnibjljhfgjaaaGreatDoorKU
set_option linter.unusedVariables false
set_option linter.unusedSimpArgs false
set_option maxRecDepth 100000
namespace Go.Sim.M
open Go.RowKit Go.Proofs

/-- The environment of bitemporal/report.values: its loops so far. -/

noncomputable def report_values_E0 : Env := EKU.fn 28 0 (lsOf []) (lpsOf [])

theorem report_values_E0_ok : OrcOk Tryz.prog (ITryz.at 0) report_values_E0 := EKU_ok.fn

theorem report_values_E0_lk28_0 : LoOk Tryz.prog (ITryz.at report_values_E0.pin) report_values_E0 (loopAt Tryz.f28 0) := loOk_nil (by kernel_rfl)

/- 15 nodes -/
noncomputable def report_values_l0_v0 (row : List AV) (t11 : Int) : Option (List UInt8) := value_Literal ((row.getD t11.toNat AV.top).cells.getD (0 : Nat) AV.top).toInt ((row.getD t11.toNat AV.top).cells.getD (1 : Nat) AV.top).toInt ((row.getD t11.toNat AV.top).cells.getD (2 : Nat) AV.top).toStr
noncomputable def report_values_l0_t {T : Type} (row : List AV) (out_n : Nat) (t10 : Int) (t11 : Int) (out_xs : List AV) (δ : T) (κl : (Int × List AV) → T) (κr : (List AV) → T) : T := br (decide (t11 < t10)) (br (decide (t11 < (↑row.length : Int))) (br (decide ((0 : Int) ≤ t11) && decide (t11 < (↑row.length : Int))) (br (decide (t11.toNat < row.length) && ((row.getD t11.toNat AV.top).cells.length == (3 : Nat) && hasShs [Sh.int IntKind.i64, Sh.int IntKind.i64, Sh.str] (row.getD t11.toNat AV.top).cells (0 : Nat))) (br ((report_values_l0_v0 row t11).isSome) (br (decide ((0 : Int) ≤ t11) && decide (t11 < (↑out_n : Int))) (br (decide ((0 : Nat) + t11.toNat < out_xs.length)) (κl (IntKind.i64.wrap (t11 + (1 : Int)), out_xs.set ((0 : Nat) + t11.toNat) (AV.str ((report_values_l0_v0 row t11).getD [])))) (δ)) (δ)) (δ)) (δ)) (δ)) (κl (IntKind.i64.wrap (t11 + (1 : Int)), out_xs))) (κr (out_xs))
noncomputable def report_values_l0_step (row : List AV) (out_n : Nat) (t10 : Int) : (Int × List AV) → Option ((Int × List AV) ⊕ (List AV)) := fun (t11, out_xs) => report_values_l0_t row out_n t10 t11 out_xs none (fun s => some (.inl s)) (fun p => some (.inr p))
noncomputable def report_values_l0_L (row : List AV) (out_n : Nat) (t10 : Int) : (Int × List AV) → List AV × List Box := fun (t11, out_xs) => ([AV.list (3 : Nat) row, AV.osl 0 0 0 out_n, AV.int IntKind.i64 t10, AV.int IntKind.i64 t11], [⟨0, (1 : Nat), (9 : Nat), out_xs, false, true⟩])
noncomputable def report_values_l0_out (row : List AV) (out_n : Nat) (t10 : Int) : (List AV) → LR := fun p => (.leaf (Exit.exit (0 : Nat)) [AV.osl 0 0 0 out_n] [⟨0, (1 : Nat), (9 : Nat), p, false, true⟩])
noncomputable abbrev report_values_l0_X (vals : List AV) (H : List Box) := XR Tryz.prog report_values_E0 [0, 5, 10, 11] [5] [] (loopAt Tryz.f28 0) vals H
theorem report_values_l0_r (row : List AV) (out_n : Nat) (t10 : Int) (s : Int × List AV) : Enc (encR (report_values_l0_L row out_n t10) (report_values_l0_out row out_n t10)) (report_values_l0_step row out_n t10 s) (report_values_l0_X (report_values_l0_L row out_n t10 s).1 (report_values_l0_L row out_n t10 s).2) := by
  obtain ⟨t11, out_xs⟩ := s
  have h : report_values_l0_X (report_values_l0_L row out_n t10 (t11, out_xs)).1 (report_values_l0_L row out_n t10 (t11, out_xs)).2 = report_values_l0_t row out_n t10 t11 out_xs none (fun s => some (encR (report_values_l0_L row out_n t10) (report_values_l0_out row out_n t10) (.inl s))) (fun p => some (encR (report_values_l0_L row out_n t10) (report_values_l0_out row out_n t10) (.inr p))) := by kernel_rfl
  rw [h]; unfold report_values_l0_step report_values_l0_t; repeat' (first | exact Enc.none | exact Enc.some rfl | refine Enc.br ?_ ?_)
noncomputable def report_values_l0_lp : Lp := lpOf [0, 5, 10, 11] [5] [] (pCons (pList (3 : Nat) pAny) (pCons (pOsl (0 : Nat) (0 : Nat) (0 : Nat)) (pCons (pInt IntKind.i64) (pCons (pInt IntKind.i64) pNil)))) (pCons (pBox (0 : Nat) (1 : Nat) (9 : Nat) false true pAny) pNil) fun (row, (out_n, (t10, (t11, _)))) (out_xs, _) => ((Iter (report_values_l0_step row out_n t10) (t11, out_xs)).isSome, report_values_l0_out row out_n t10 ((Iter (report_values_l0_step row out_n t10) (t11, out_xs)).getD []))
theorem report_values_l0_lok : LoopOk Tryz.prog (ITryz.at report_values_E0.pin) report_values_E0.nt (loopAt Tryz.f28 0) report_values_l0_lp := lok_of fun vv bb rr hh => by
  obtain ⟨row, ⟨out_n, ⟨t10, ⟨t11, _⟩⟩⟩⟩ := vv
  obtain ⟨out_xs, _⟩ := bb
  obtain ⟨hh1, rfl⟩ := Prod.mk.inj hh
  exact loop_of_XR mxTryz (inv0Ok Tryz.prog _) rfl report_values_E0_ok report_values_E0_lk28_0 (report_values_l0_L row out_n t10) (report_values_l0_out row out_n t10) (fun p => by simp only [report_values_l0_out, LR.eval]; first | (simp; done) | (repeat' split <;> simp)) (report_values_l0_r row out_n t10) (s := (t11, out_xs)) (getD_of_isSome hh1)


/-- The environment of bitemporal/report.values: its loops so far. -/

noncomputable def report_values_E1 : Env := EKU.fn 28 0 (lsOf []) (lpsOf [(3, report_values_l0_lp)])

theorem report_values_E1_ok : OrcOk Tryz.prog (ITryz.at 0) report_values_E1 := EKU_ok.fn

theorem report_values_E1_lk28 : LoOk Tryz.prog (ITryz.at report_values_E1.pin) report_values_E1 (Tryz.f28.body.getD .skip) := loOk_all (ls := [loopAt Tryz.f28 0]) (by kernel_rfl) (fun l hl lp hs => by
  simp only [List.mem_cons, List.not_mem_nil, or_false] at hl
  rcases hl with rfl
  · rw [show report_values_E1.lp (codeId (loopAt Tryz.f28 0)) = some report_values_l0_lp by kernel_rfl] at hs
    simp only [Option.some.injEq] at hs; subst hs; exact report_values_l0_lok)

/- 7 nodes -/
noncomputable def report_values_t {T : Type} (row : List AV) (n : Int) (δ : T) (κ : List AV → T) : T := br (decide ((0 : Int) ≤ n) && (decide (n ≤ n) && (decide ((16 : Int) * n ≤ (281474976710656 : Int)) && decide (n ≤ (4611686018427387904 : Int))))) (br ((Iter (report_values_l0_step row n.toNat (↑n.toNat : Int)) ((0 : Int), List.replicate n.toNat (AV.str []))).isSome) (br (decide ((0 : Nat) + n.toNat ≤ ((Iter (report_values_l0_step row n.toNat (↑n.toNat : Int)) ((0 : Int), List.replicate n.toNat (AV.str []))).getD []).length) && true) (κ (List.take n.toNat (List.drop (0 : Nat) ((Iter (report_values_l0_step row n.toNat (↑n.toNat : Int)) ((0 : Int), List.replicate n.toNat (AV.str []))).getD [])))) (δ)) (δ)) (δ)
noncomputable def report_values (row : List AV) (n : Int) : Option (List AV) := report_values_t row n none some
theorem report_values_x (row : List AV) (n : Int) : Enc (fun (p : List AV) => ((AV.list (1 : Nat) p) : AV)) (report_values row n) (XF Tryz.prog report_values_E1 Tryz.f28 (Tryz.f28.body.getD .skip) [AV.list (3 : Nat) row, AV.int IntKind.i64 n]) := by
  have h : XF Tryz.prog report_values_E1 Tryz.f28 (Tryz.f28.body.getD .skip) [AV.list (3 : Nat) row, AV.int IntKind.i64 n] = report_values_t row n none (fun (p : List AV) => some ((AV.list (1 : Nat) p) : AV)) := by kernel_rfl
  rw [h]; unfold report_values report_values_t; repeat' (first | exact Enc.none | exact Enc.some rfl | refine Enc.br ?_ ?_)
noncomputable def report_values_o : List AV → Option (Bool × AV) := ocOf (sCons (sList (3 : Nat) pAny) (sCons (sEq (pInt IntKind.i64)) sNil)) fun (row, (n, _)) => ((report_values row n).isSome, (AV.list (1 : Nat) ((report_values row n).getD [])))
theorem report_values_c : OcOk Tryz.prog ITryz 28 (report_values_o) := ocOk_of fun vv rr hh => by
  obtain ⟨row, ⟨n, _⟩⟩ := vv
  obtain ⟨hh1, hh2⟩ := Prod.mk.inj hh
  refine good_pin (p := report_values_E1.pin) (good_XF mxTryz (inv0Ok Tryz.prog _) rfl report_values_E1_ok Tryz.func28 rfl (by kernel_rfl) report_values_E1_lk28 ((report_values_x _ _ _ (getD_of_isSome (d := []) hh1)).trans ?_))
  exact congrArg some hh2


noncomputable def EK6V_1 : Env := EKU.with 28 report_values_o

theorem EK6V_1_ok : OrcOk Tryz.prog ITryz EK6V_1 := EKU_ok.with report_values_c

/-- The environment of bitemporal/report.Versions: its loops so far. -/

noncomputable def report_Versions_E0 : Env := EK6V_1.fn 56 0 (lsOf []) (lpsOf [])

theorem report_Versions_E0_ok : OrcOk Tryz.prog (ITryz.at 0) report_Versions_E0 := EK6V_1_ok.fn

theorem report_Versions_E0_lk17_0 : LoOk Tryz.prog (ITryz.at report_Versions_E0.pin) report_Versions_E0 (loopAt Tryz.f17 0) := loOk_nil (by kernel_rfl)

/- 39 nodes -/
noncomputable def report_Versions_l0_v0 (l : List AV) (t16 : List AV) (t17 : Int) (rows_n : Nat) (t18 : Int) (rows_xs : List AV) : Bool := decide ((-9223372036854775808 : Int) ≤ ((t16.getD t18.toNat AV.top).cells.getD (7 : Nat) AV.top).toInt) && decide (((t16.getD t18.toNat AV.top).cells.getD (7 : Nat) AV.top).toInt ≤ (9223372036854775807 : Int))
noncomputable def report_Versions_l0_v1 (l : List AV) (t16 : List AV) (t17 : Int) (rows_n : Nat) (t18 : Int) (rows_xs : List AV) : Bool := decide ((-9223372036854775808 : Int) ≤ ((t16.getD t18.toNat AV.top).cells.getD (0 : Nat) AV.top).toInt) && decide (((t16.getD t18.toNat AV.top).cells.getD (0 : Nat) AV.top).toInt ≤ (9223372036854775807 : Int))
noncomputable def report_Versions_l0_v2 (l : List AV) (t16 : List AV) (t18 : Int) : Option (List AV) := slices_Concat [AV.str (Lib.itoa ((t16.getD t18.toNat AV.top).cells.getD (0 : Nat) AV.top).toInt)] ((report_values ((t16.getD t18.toNat AV.top).cells.getD (2 : Nat) AV.top).toList (↑l.length : Int)).getD []) [AV.str ((period_Text ((t16.getD t18.toNat AV.top).cells.getD (3 : Nat) AV.top).toInt ((t16.getD t18.toNat AV.top).cells.getD (4 : Nat) AV.top).toInt).getD []), AV.str ((period_Text ((t16.getD t18.toNat AV.top).cells.getD (5 : Nat) AV.top).toInt ((t16.getD t18.toNat AV.top).cells.getD (6 : Nat) AV.top).toInt).getD []), AV.str (Lib.itoa ((t16.getD t18.toNat AV.top).cells.getD (7 : Nat) AV.top).toInt), AV.str (Lib.itoa ((t16.getD t18.toNat AV.top).cells.getD (8 : Nat) AV.top).toInt)]
noncomputable def report_Versions_l0_v3 (l : List AV) (t16 : List AV) (t18 : Int) : Option (List AV) := slices_Concat [AV.str (Lib.itoa ((t16.getD t18.toNat AV.top).cells.getD (0 : Nat) AV.top).toInt)] ((report_values ((t16.getD t18.toNat AV.top).cells.getD (2 : Nat) AV.top).toList (↑l.length : Int)).getD []) [AV.str ((period_Text ((t16.getD t18.toNat AV.top).cells.getD (3 : Nat) AV.top).toInt ((t16.getD t18.toNat AV.top).cells.getD (4 : Nat) AV.top).toInt).getD []), AV.str ((period_Text ((t16.getD t18.toNat AV.top).cells.getD (5 : Nat) AV.top).toInt ((t16.getD t18.toNat AV.top).cells.getD (6 : Nat) AV.top).toInt).getD []), AV.str (Lib.itoa ((t16.getD t18.toNat AV.top).cells.getD (7 : Nat) AV.top).toInt), AV.str [(45 : UInt8)]]
noncomputable def report_Versions_l0_t {T : Type} (l : List AV) (t16 : List AV) (t17 : Int) (rows_n : Nat) (t18 : Int) (rows_xs : List AV) (δ : T) (κl : (Nat × Int × List AV) → T) (κr : (Nat × List AV) → T) : T := br (decide (t18 < t17)) (br (decide ((0 : Int) ≤ t18) && decide (t18 < (↑t16.length : Int))) (br (decide (t18.toNat < t16.length) && ((t16.getD t18.toNat AV.top).cells.length == (9 : Nat) && hasShs [Sh.int IntKind.i64, Sh.int IntKind.i64, Sh.list (3 : Nat), Sh.int IntKind.i64, Sh.int IntKind.i64, Sh.int IntKind.i64, Sh.int IntKind.i64, Sh.int IntKind.i64, Sh.int IntKind.i64] (t16.getD t18.toNat AV.top).cells (0 : Nat))) (br (((t16.getD t18.toNat AV.top).cells.getD (8 : Nat) AV.top).toInt != (0 : Int)) (br (decide ((-9223372036854775808 : Int) ≤ ((t16.getD t18.toNat AV.top).cells.getD (8 : Nat) AV.top).toInt) && decide (((t16.getD t18.toNat AV.top).cells.getD (8 : Nat) AV.top).toInt ≤ (9223372036854775807 : Int))) (br (report_Versions_l0_v1 l t16 t17 rows_n t18 rows_xs) (br ((report_values ((t16.getD t18.toNat AV.top).cells.getD (2 : Nat) AV.top).toList (↑l.length : Int)).isSome) (br ((period_Text ((t16.getD t18.toNat AV.top).cells.getD (3 : Nat) AV.top).toInt ((t16.getD t18.toNat AV.top).cells.getD (4 : Nat) AV.top).toInt).isSome) (br ((period_Text ((t16.getD t18.toNat AV.top).cells.getD (5 : Nat) AV.top).toInt ((t16.getD t18.toNat AV.top).cells.getD (6 : Nat) AV.top).toInt).isSome) (br (report_Versions_l0_v0 l t16 t17 rows_n t18 rows_xs) (br ((report_Versions_l0_v2 l t16 t18).isSome) (br (rows_n == rows_xs.length && (decide ((rows_n + (1 : Nat)) * (24 : Nat) ≤ (140737488355328 : Nat)) && decide (rows_n + (1 : Nat) ≤ (4611686018427387904 : Nat)))) (κl (rows_n + (1 : Nat), IntKind.i64.wrap (t18 + (1 : Int)), rows_xs ++ [AV.list (1 : Nat) ((report_Versions_l0_v2 l t16 t18).getD [])])) (δ)) (δ)) (δ)) (δ)) (δ)) (δ)) (δ)) (δ)) (br (report_Versions_l0_v1 l t16 t17 rows_n t18 rows_xs) (br ((report_values ((t16.getD t18.toNat AV.top).cells.getD (2 : Nat) AV.top).toList (↑l.length : Int)).isSome) (br ((period_Text ((t16.getD t18.toNat AV.top).cells.getD (3 : Nat) AV.top).toInt ((t16.getD t18.toNat AV.top).cells.getD (4 : Nat) AV.top).toInt).isSome) (br ((period_Text ((t16.getD t18.toNat AV.top).cells.getD (5 : Nat) AV.top).toInt ((t16.getD t18.toNat AV.top).cells.getD (6 : Nat) AV.top).toInt).isSome) (br (report_Versions_l0_v0 l t16 t17 rows_n t18 rows_xs) (br ((report_Versions_l0_v3 l t16 t18).isSome) (br (rows_n == rows_xs.length && (decide ((rows_n + (1 : Nat)) * (24 : Nat) ≤ (140737488355328 : Nat)) && decide (rows_n + (1 : Nat) ≤ (4611686018427387904 : Nat)))) (κl (rows_n + (1 : Nat), IntKind.i64.wrap (t18 + (1 : Int)), rows_xs ++ [AV.list (1 : Nat) ((report_Versions_l0_v3 l t16 t18).getD [])])) (δ)) (δ)) (δ)) (δ)) (δ)) (δ)) (δ))) (δ)) (δ)) (κr (rows_n, rows_xs))
noncomputable def report_Versions_l0_step (l : List AV) (t16 : List AV) (t17 : Int) : (Nat × Int × List AV) → Option ((Nat × Int × List AV) ⊕ (Nat × List AV)) := fun (rows_n, t18, rows_xs) => report_Versions_l0_t l t16 t17 rows_n t18 rows_xs none (fun s => some (.inl s)) (fun p => some (.inr p))
noncomputable def report_Versions_l0_L (l : List AV) (t16 : List AV) (t17 : Int) : (Nat × Int × List AV) → List AV × List Box := fun (rows_n, t18, rows_xs) => ([AV.list (3 : Nat) l, AV.osl 0 0 0 rows_n, AV.list (9 : Nat) t16, AV.int IntKind.i64 t17, AV.int IntKind.i64 t18], [⟨0, (1 : Nat), (59 : Nat), rows_xs, false, true⟩])
noncomputable def report_Versions_l0_out (l : List AV) (t16 : List AV) (t17 : Int) : (Nat × List AV) → LR := fun p => (.leaf (Exit.exit (0 : Nat)) [AV.osl 0 0 0 p.1] [⟨0, (1 : Nat), (59 : Nat), p.2, false, true⟩])
noncomputable abbrev report_Versions_l0_X (vals : List AV) (H : List Box) := XR Tryz.prog report_Versions_E0 [0, 5, 16, 17, 18] [5] [(5, 1, 59)] (loopAt Tryz.f17 0) vals H
theorem report_Versions_l0_r (l : List AV) (t16 : List AV) (t17 : Int) (s : Nat × Int × List AV) : Enc (encR (report_Versions_l0_L l t16 t17) (report_Versions_l0_out l t16 t17)) (report_Versions_l0_step l t16 t17 s) (report_Versions_l0_X (report_Versions_l0_L l t16 t17 s).1 (report_Versions_l0_L l t16 t17 s).2) := by
  obtain ⟨rows_n, t18, rows_xs⟩ := s
  have h : report_Versions_l0_X (report_Versions_l0_L l t16 t17 (rows_n, t18, rows_xs)).1 (report_Versions_l0_L l t16 t17 (rows_n, t18, rows_xs)).2 = report_Versions_l0_t l t16 t17 rows_n t18 rows_xs none (fun s => some (encR (report_Versions_l0_L l t16 t17) (report_Versions_l0_out l t16 t17) (.inl s))) (fun p => some (encR (report_Versions_l0_L l t16 t17) (report_Versions_l0_out l t16 t17) (.inr p))) := by kernel_rfl
  rw [h]; unfold report_Versions_l0_step report_Versions_l0_t; repeat' (first | exact Enc.none | exact Enc.some rfl | refine Enc.br ?_ ?_)
noncomputable def report_Versions_l0_lp : Lp := lpOf [0, 5, 16, 17, 18] [5] [(5, 1, 59)] (pCons (pList (3 : Nat) pAny) (pCons (pOsl (0 : Nat) (0 : Nat) (0 : Nat)) (pCons (pList (9 : Nat) pAny) (pCons (pInt IntKind.i64) (pCons (pInt IntKind.i64) pNil))))) (pCons (pBox (0 : Nat) (1 : Nat) (59 : Nat) false true pAny) pNil) fun (l, (rows_n, (t16, (t17, (t18, _))))) (rows_xs, _) => ((Iter (report_Versions_l0_step l t16 t17) (rows_n, t18, rows_xs)).isSome, report_Versions_l0_out l t16 t17 ((Iter (report_Versions_l0_step l t16 t17) (rows_n, t18, rows_xs)).getD (0, [])))
theorem report_Versions_l0_lok : LoopOk Tryz.prog (ITryz.at report_Versions_E0.pin) report_Versions_E0.nt (loopAt Tryz.f17 0) report_Versions_l0_lp := lok_of fun vv bb rr hh => by
  obtain ⟨l, ⟨rows_n, ⟨t16, ⟨t17, ⟨t18, _⟩⟩⟩⟩⟩ := vv
  obtain ⟨rows_xs, _⟩ := bb
  obtain ⟨hh1, rfl⟩ := Prod.mk.inj hh
  exact loop_of_XR mxTryz (inv0Ok Tryz.prog _) rfl report_Versions_E0_ok report_Versions_E0_lk17_0 (report_Versions_l0_L l t16 t17) (report_Versions_l0_out l t16 t17) (fun p => by simp only [report_Versions_l0_out, LR.eval]; first | (simp; done) | (repeat' split <;> simp)) (report_Versions_l0_r l t16 t17) (s := (rows_n, t18, rows_xs)) (getD_of_isSome hh1)


/-- The environment of bitemporal/report.Versions: its loops so far. -/

noncomputable def report_Versions_E1 : Env := EK6V_1.fn 56 0 (lsOf []) (lpsOf [(3, report_Versions_l0_lp)])

theorem report_Versions_E1_ok : OrcOk Tryz.prog (ITryz.at 0) report_Versions_E1 := EK6V_1_ok.fn

theorem report_Versions_E1_lk17 : LoOk Tryz.prog (ITryz.at report_Versions_E1.pin) report_Versions_E1 (Tryz.f17.body.getD .skip) := loOk_all (ls := [loopAt Tryz.f17 0]) (by kernel_rfl) (fun l hl lp hs => by
  simp only [List.mem_cons, List.not_mem_nil, or_false] at hl
  rcases hl with rfl
  · rw [show report_Versions_E1.lp (codeId (loopAt Tryz.f17 0)) = some report_Versions_l0_lp by kernel_rfl] at hs
    simp only [Option.some.injEq] at hs; subst hs; exact report_Versions_l0_lok)

/- 13 nodes -/
noncomputable def report_Versions_v5 (l : List AV) : Option (List AV) := slices_Concat [AV.str [(105 : UInt8), (100 : UInt8)]] (List.take ((report_names_M l).getD ((0 : Nat), [])).fst (List.drop (0 : Nat) ((report_names_M l).getD ((0 : Nat), [])).snd)) [AV.str [(118 : UInt8), (97 : UInt8), (108 : UInt8), (105 : UInt8), (100 : UInt8)], AV.str [(115 : UInt8), (121 : UInt8), (115 : UInt8), (116 : UInt8), (101 : UInt8), (109 : UInt8)], AV.str [(98 : UInt8), (121 : UInt8)], AV.str [(117 : UInt8), (110 : UInt8), (116 : UInt8), (105 : UInt8), (108 : UInt8)]]
noncomputable def report_Versions_v4 (l : List AV) (v : List AV) : Option (Nat × List AV) := Iter (report_Versions_l0_step l v (↑v.length : Int)) ((1 : Nat), (0 : Int), [AV.list (1 : Nat) ((report_Versions_v5 l).getD [])])
noncomputable def report_Versions_v3 (l : List AV) (v : List AV) : Nat × List AV := (report_Versions_v4 l v).getD ((0 : Nat), [])
noncomputable def report_Versions_v1 (l : List AV) (v : List AV) : Nat := (report_Versions_v3 l v).fst
noncomputable def report_Versions_v2 (l : List AV) (v : List AV) : List AV := (report_Versions_v3 l v).snd
noncomputable def report_Versions_v0 (l : List AV) (v : List AV) : Option (List UInt8) := report_table (List.take (report_Versions_v1 l v) (List.drop (0 : Nat) (report_Versions_v2 l v)))
noncomputable def report_Versions_t {T : Type} (l : List AV) (v : List AV) (δ : T) (κ : List UInt8 → T) : T := br ((report_names_M l).isSome) (br (decide ((0 : Nat) + ((report_names_M l).getD ((0 : Nat), [])).fst ≤ ((report_names_M l).getD ((0 : Nat), [])).snd.length) && true && true && true) (br ((report_Versions_v5 l).isSome) (br ((report_Versions_v4 l v).isSome) (br (decide ((0 : Nat) + report_Versions_v1 l v ≤ (report_Versions_v2 l v).length) && true) (br ((report_Versions_v0 l v).isSome) (κ ((report_Versions_v0 l v).getD [])) (δ)) (δ)) (δ)) (δ)) (δ)) (δ)
noncomputable def report_Versions (l : List AV) (v : List AV) : Option (List UInt8) := report_Versions_t l v none some
theorem report_Versions_x (l : List AV) (v : List AV) : Enc (fun (p : List UInt8) => ((AV.str p) : AV)) (report_Versions l v) (XF Tryz.prog report_Versions_E1 Tryz.f17 (Tryz.f17.body.getD .skip) [AV.list (3 : Nat) l, AV.list (9 : Nat) v]) := by
  have h : XF Tryz.prog report_Versions_E1 Tryz.f17 (Tryz.f17.body.getD .skip) [AV.list (3 : Nat) l, AV.list (9 : Nat) v] = report_Versions_t l v none (fun (p : List UInt8) => some ((AV.str p) : AV)) := by kernel_rfl
  rw [h]; unfold report_Versions report_Versions_t; repeat' (first | exact Enc.none | exact Enc.some rfl | refine Enc.br ?_ ?_)
noncomputable def report_Versions_o : List AV → Option (Bool × AV) := ocOf (sCons (sList (3 : Nat) pAny) (sCons (sList (9 : Nat) pAny) sNil)) fun (l, (v, _)) => ((report_Versions l v).isSome, (AV.str ((report_Versions l v).getD [])))
theorem report_Versions_c : OcOk Tryz.prog ITryz 17 (report_Versions_o) := ocOk_of fun vv rr hh => by
  obtain ⟨l, ⟨v, _⟩⟩ := vv
  obtain ⟨hh1, hh2⟩ := Prod.mk.inj hh
  refine good_pin (p := report_Versions_E1.pin) (good_XF mxTryz (inv0Ok Tryz.prog _) rfl report_Versions_E1_ok Tryz.func17 rfl (by kernel_rfl) report_Versions_E1_lk17 ((report_Versions_x _ _ _ (getD_of_isSome (d := []) hh1)).trans ?_))
  exact congrArg some hh2


noncomputable def EK6V_2 : Env := EK6V_1.with 17 report_Versions_o

theorem EK6V_2_ok : OrcOk Tryz.prog ITryz EK6V_2 := EK6V_1_ok.with report_Versions_c

noncomputable abbrev EK6V : Env := EK6V_2

theorem EK6V_ok : OrcOk Tryz.prog ITryz EK6V := EK6V_2_ok

end Go.Sim.M
