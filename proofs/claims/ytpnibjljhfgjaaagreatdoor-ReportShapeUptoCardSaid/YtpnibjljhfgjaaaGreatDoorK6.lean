/- Functions of the program as the executor found them: printed by program, checked by the kernel. -/
import Derived.Test.YtpnibjljhfgjaaaGreatDoorK5
set_option linter.unusedVariables false
set_option linter.unusedSimpArgs false
set_option maxRecDepth 100000
namespace Go.Sim.M
open Go.RowKit Go.Proofs

/-- The environment of bitemporal/report.Result: its loops so far. -/

noncomputable def report_Result_E0 : Env := EK5.fn 89 0 (lsOf [59]) (lpsOf [])

theorem report_Result_E0_ok : OrcOk Tryz.prog (ITryz.at 0) report_Result_E0 := EK5_ok.fn

theorem report_Result_E0_lk11_0 : LoOk Tryz.prog (ITryz.at report_Result_E0.pin) report_Result_E0 (loopAt Tryz.f11 0) := loOk_nil (by kernel_rfl)

/- 23 nodes -/
noncomputable def report_Result_l0_v1 (t51 : List AV) (t53 : Int) (r_0 : List AV) : Nat := ((report_values_M ((t51.getD t53.toNat AV.top).cells.getD (0 : Nat) AV.top).toList (↑r_0.length : Int)).getD ((0 : Nat), [])).fst
noncomputable def report_Result_l0_v3 (t51 : List AV) (t53 : Int) (r_0 : List AV) : List AV := ((report_values_M ((t51.getD t53.toNat AV.top).cells.getD (0 : Nat) AV.top).toList (↑r_0.length : Int)).getD ((0 : Nat), [])).snd
noncomputable def report_Result_l0_v0 (t51 : List AV) (t53 : Int) (r_0 : List AV) : Nat := report_Result_l0_v1 t51 t53 r_0 + (1 : Nat)
noncomputable def report_Result_l0_v2 (t51 : List AV) (t53 : Int) (r_0 : List AV) : List AV := report_Result_l0_v3 t51 t53 r_0 ++ [AV.str ((period_Text ((t51.getD t53.toNat AV.top).cells.getD (1 : Nat) AV.top).toInt ((t51.getD t53.toNat AV.top).cells.getD (2 : Nat) AV.top).toInt).getD [])]
noncomputable def report_Result_l0_t {T : Type} (timed : Bool) (t51 : List AV) (t52 : Int) (rows_n : Nat) (t53 : Int) (r_0 : List AV) (r_1 : List AV) (r_2 : Int) (r_3 : Int) (rows_xs : List AV) (δ : T) (κl : (Nat × Int × List AV × List AV × Int × Int × List AV) → T) (κr : (Nat × List AV × List AV × Int × Int × List AV) → T) : T := br (decide (t53 < t52)) (br (decide ((0 : Int) ≤ t53) && decide (t53 < (↑t51.length : Int))) (br (decide (t53.toNat < t51.length) && ((t51.getD t53.toNat AV.top).cells.length == (3 : Nat) && hasShs [Sh.list (3 : Nat), Sh.int IntKind.i64, Sh.int IntKind.i64] (t51.getD t53.toNat AV.top).cells (0 : Nat))) (br ((report_values_M ((t51.getD t53.toNat AV.top).cells.getD (0 : Nat) AV.top).toList (↑r_0.length : Int)).isSome) (br (timed) (br ((period_Text ((t51.getD t53.toNat AV.top).cells.getD (1 : Nat) AV.top).toInt ((t51.getD t53.toNat AV.top).cells.getD (2 : Nat) AV.top).toInt).isSome) (br (report_Result_l0_v1 t51 t53 r_0 == (report_Result_l0_v3 t51 t53 r_0).length && (decide (report_Result_l0_v0 t51 t53 r_0 * (16 : Nat) ≤ (140737488355328 : Nat)) && decide (report_Result_l0_v0 t51 t53 r_0 ≤ (4611686018427387904 : Nat)))) (br (decide ((0 : Nat) + report_Result_l0_v0 t51 t53 r_0 ≤ (report_Result_l0_v2 t51 t53 r_0).length) && true) (br (rows_n == rows_xs.length && (decide ((rows_n + (1 : Nat)) * (24 : Nat) ≤ (140737488355328 : Nat)) && decide (rows_n + (1 : Nat) ≤ (4611686018427387904 : Nat)))) (κl (rows_n + (1 : Nat), IntKind.i64.wrap (t53 + (1 : Int)), r_0, r_1, r_2, r_3, rows_xs ++ [AV.list (1 : Nat) (List.take (report_Result_l0_v0 t51 t53 r_0) (List.drop (0 : Nat) (report_Result_l0_v2 t51 t53 r_0)))])) (δ)) (δ)) (δ)) (δ)) (br (decide ((0 : Nat) + report_Result_l0_v1 t51 t53 r_0 ≤ (report_Result_l0_v3 t51 t53 r_0).length) && true) (br (rows_n == rows_xs.length && (decide ((rows_n + (1 : Nat)) * (24 : Nat) ≤ (140737488355328 : Nat)) && decide (rows_n + (1 : Nat) ≤ (4611686018427387904 : Nat)))) (κl (rows_n + (1 : Nat), IntKind.i64.wrap (t53 + (1 : Int)), r_0, r_1, r_2, r_3, rows_xs ++ [AV.list (1 : Nat) (List.take (report_Result_l0_v1 t51 t53 r_0) (List.drop (0 : Nat) (report_Result_l0_v3 t51 t53 r_0)))])) (δ)) (δ))) (δ)) (δ)) (δ)) (κr (rows_n, r_0, r_1, r_2, r_3, rows_xs))
noncomputable def report_Result_l0_step (timed : Bool) (t51 : List AV) (t52 : Int) : (Nat × Int × List AV × List AV × Int × Int × List AV) → Option ((Nat × Int × List AV × List AV × Int × Int × List AV) ⊕ (Nat × List AV × List AV × Int × Int × List AV)) := fun (rows_n, t53, r_0, r_1, r_2, r_3, rows_xs) => report_Result_l0_t timed t51 t52 rows_n t53 r_0 r_1 r_2 r_3 rows_xs none (fun s => some (.inl s)) (fun p => some (.inr p))
noncomputable def report_Result_l0_L (timed : Bool) (t51 : List AV) (t52 : Int) : (Nat × Int × List AV × List AV × Int × Int × List AV) → List AV × List Box := fun (rows_n, t53, r_0, r_1, r_2, r_3, rows_xs) => ([AV.own 0 0 0 0, AV.bool timed, AV.osl 1 0 0 rows_n, AV.list (3 : Nat) t51, AV.int IntKind.i64 t52, AV.int IntKind.i64 t53], [⟨0, (4 : Nat), (25 : Nat), [AV.agg [AV.list (3 : Nat) r_0, AV.list (3 : Nat) r_1, AV.int IntKind.i64 r_2, AV.int IntKind.i64 r_3]], false, true⟩, ⟨0, (1 : Nat), (59 : Nat), rows_xs, false, true⟩])
noncomputable def report_Result_l0_out (timed : Bool) (t51 : List AV) (t52 : Int) : (Nat × List AV × List AV × Int × Int × List AV) → LR := fun p => (.leaf (Exit.exit (0 : Nat)) [AV.own 0 0 0 0, AV.osl 1 0 0 p.1] [⟨0, (4 : Nat), (25 : Nat), [AV.agg [AV.list (3 : Nat) p.2.1, AV.list (3 : Nat) p.2.2.1, AV.int IntKind.i64 p.2.2.2.1, AV.int IntKind.i64 p.2.2.2.2.1]], false, true⟩, ⟨0, (1 : Nat), (59 : Nat), p.2.2.2.2.2, false, true⟩])
noncomputable abbrev report_Result_l0_X (vals : List AV) (H : List Box) := XR Tryz.prog report_Result_E0 [1, 4, 6, 51, 52, 53] [1, 6] [(6, 1, 59)] (loopAt Tryz.f11 0) vals H
theorem report_Result_l0_r (timed : Bool) (t51 : List AV) (t52 : Int) (s : Nat × Int × List AV × List AV × Int × Int × List AV) : Enc (encR (report_Result_l0_L timed t51 t52) (report_Result_l0_out timed t51 t52)) (report_Result_l0_step timed t51 t52 s) (report_Result_l0_X (report_Result_l0_L timed t51 t52 s).1 (report_Result_l0_L timed t51 t52 s).2) := by
  obtain ⟨rows_n, t53, r_0, r_1, r_2, r_3, rows_xs⟩ := s
  have h : report_Result_l0_X (report_Result_l0_L timed t51 t52 (rows_n, t53, r_0, r_1, r_2, r_3, rows_xs)).1 (report_Result_l0_L timed t51 t52 (rows_n, t53, r_0, r_1, r_2, r_3, rows_xs)).2 = report_Result_l0_t timed t51 t52 rows_n t53 r_0 r_1 r_2 r_3 rows_xs none (fun s => some (encR (report_Result_l0_L timed t51 t52) (report_Result_l0_out timed t51 t52) (.inl s))) (fun p => some (encR (report_Result_l0_L timed t51 t52) (report_Result_l0_out timed t51 t52) (.inr p))) := by kernel_rfl
  rw [h]; unfold report_Result_l0_step report_Result_l0_t; repeat' (first | exact Enc.none | exact Enc.some rfl | refine Enc.br ?_ ?_)
noncomputable def report_Result_l0_lp : Lp := lpOf [1, 4, 6, 51, 52, 53] [1, 6] [(6, 1, 59)] (pCons (pOwn (0 : Nat) (0 : Nat) (0 : Nat) (0 : Nat)) (pCons pBool (pCons (pOsl (1 : Nat) (0 : Nat) (0 : Nat)) (pCons (pList (3 : Nat) pAny) (pCons (pInt IntKind.i64) (pCons (pInt IntKind.i64) pNil)))))) (pCons (pBox (0 : Nat) (4 : Nat) (25 : Nat) false true (pCons (pAgg (pCons (pList (3 : Nat) pAny) (pCons (pList (3 : Nat) pAny) (pCons (pInt IntKind.i64) (pCons (pInt IntKind.i64) pNil))))) pNil)) (pCons (pBox (0 : Nat) (1 : Nat) (59 : Nat) false true pAny) pNil)) fun (_, (timed, (rows_n, (t51, (t52, (t53, _)))))) (((r_0, (r_1, (r_2, (r_3, _)))), _), (rows_xs, _)) => ((Iter (report_Result_l0_step timed t51 t52) (rows_n, t53, r_0, r_1, r_2, r_3, rows_xs)).isSome, report_Result_l0_out timed t51 t52 ((Iter (report_Result_l0_step timed t51 t52) (rows_n, t53, r_0, r_1, r_2, r_3, rows_xs)).getD (0, [], [], 0, 0, [])))
theorem report_Result_l0_lok : LoopOk Tryz.prog (ITryz.at report_Result_E0.pin) report_Result_E0.nt (loopAt Tryz.f11 0) report_Result_l0_lp := lok_of fun vv bb rr hh => by
  obtain ⟨_, ⟨timed, ⟨rows_n, ⟨t51, ⟨t52, ⟨t53, _⟩⟩⟩⟩⟩⟩ := vv
  obtain ⟨⟨⟨r_0, ⟨r_1, ⟨r_2, ⟨r_3, _⟩⟩⟩⟩, _⟩, ⟨rows_xs, _⟩⟩ := bb
  obtain ⟨hh1, rfl⟩ := Prod.mk.inj hh
  exact loop_of_XR mxTryz (inv0Ok Tryz.prog _) rfl report_Result_E0_ok report_Result_E0_lk11_0 (report_Result_l0_L timed t51 t52) (report_Result_l0_out timed t51 t52) (fun p => by simp only [report_Result_l0_out, LR.eval]; first | (simp; done) | (repeat' split <;> simp)) (report_Result_l0_r timed t51 t52) (s := (rows_n, t53, r_0, r_1, r_2, r_3, rows_xs)) (getD_of_isSome hh1)


/-- The environment of bitemporal/report.Result: its loops so far. -/

noncomputable def report_Result_E1 : Env := EK5.fn 89 0 (lsOf [59]) (lpsOf [(14, report_Result_l0_lp)])

theorem report_Result_E1_ok : OrcOk Tryz.prog (ITryz.at 0) report_Result_E1 := EK5_ok.fn

theorem report_Result_E1_lk11 : LoOk Tryz.prog (ITryz.at report_Result_E1.pin) report_Result_E1 (Tryz.f11.body.getD .skip) := loOk_all (ls := [loopAt Tryz.f11 0]) (by kernel_rfl) (fun l hl lp hs => by
  simp only [List.mem_cons, List.not_mem_nil, or_false] at hl
  rcases hl with rfl
  · rw [show report_Result_E1.lp (codeId (loopAt Tryz.f11 0)) = some report_Result_l0_lp by kernel_rfl] at hs
    simp only [Option.some.injEq] at hs; subst hs; exact report_Result_l0_lok)

/- 87 nodes -/
noncomputable def report_Result_v4 (r_c : List AV) (r_fs : List AV) (r_n : Int) (r_tm : Int) : Bool := decide ((-9223372036854775808 : Int) ≤ r_tm) && decide (r_tm ≤ (9223372036854775807 : Int))
noncomputable def report_Result_v6 (r_c : List AV) (r_fs : List AV) (r_n : Int) (r_tm : Int) : Bool := decide ((5 : Nat) + (Lib.itoa r_tm).length ≤ (4611686018427387904 : Nat))
noncomputable def report_Result_v24 (r_n : Int) (r_tm : Int) : Option (List UInt8) := report_line [(44 : UInt8), (32 : UInt8)] [AV.str [(111 : UInt8), (107 : UInt8)], AV.str ([(99 : UInt8), (111 : UInt8), (117 : UInt8), (110 : UInt8), (116 : UInt8), (32 : UInt8)] ++ Lib.itoa r_n), AV.str ([(116 : UInt8), (105 : UInt8), (109 : UInt8), (101 : UInt8), (32 : UInt8)] ++ Lib.itoa r_tm)]
noncomputable def report_Result_v25 (r_n : Int) : Option (List UInt8) := report_line [(44 : UInt8), (32 : UInt8)] [AV.str [(111 : UInt8), (107 : UInt8)], AV.str ([(99 : UInt8), (111 : UInt8), (117 : UInt8), (110 : UInt8), (116 : UInt8), (32 : UInt8)] ++ Lib.itoa r_n)]
noncomputable def report_Result_v26 (r_tm : Int) : Option (List UInt8) := report_line [(44 : UInt8), (32 : UInt8)] [AV.str [(111 : UInt8), (107 : UInt8)], AV.str ([(116 : UInt8), (105 : UInt8), (109 : UInt8), (101 : UInt8), (32 : UInt8)] ++ Lib.itoa r_tm)]
noncomputable def report_Result_v28 (r_c : List AV) : List AV := ((report_names_M r_c).getD ((0 : Nat), [])).snd ++ [AV.str [(118 : UInt8), (97 : UInt8), (108 : UInt8), (105 : UInt8), (100 : UInt8)]]
noncomputable def report_Result_v31 (r_c : List AV) : Nat := ((report_names_M r_c).getD ((0 : Nat), [])).fst
noncomputable def report_Result_v23 (r_c : List AV) (r_fs : List AV) (r_n : Int) (r_tm : Int) : Option (Nat × List AV × List AV × Int × Int × List AV) := Iter (report_Result_l0_step ((slices_ContainsFunc r_fs).getD false) r_fs (↑r_fs.length : Int)) ((1 : Nat), (0 : Int), r_c, r_fs, r_n, r_tm, [AV.list (1 : Nat) (List.take (report_Result_v31 r_c) (List.drop (0 : Nat) ((report_names_M r_c).getD ((0 : Nat), [])).snd))])
noncomputable def report_Result_v27 (r_c : List AV) : Nat := report_Result_v31 r_c + (1 : Nat)
noncomputable def report_Result_v21 (r_c : List AV) (r_fs : List AV) (r_n : Int) (r_tm : Int) : Nat × List AV × List AV × Int × Int × List AV := (report_Result_v23 r_c r_fs r_n r_tm).getD ((0 : Nat), [], [], (0 : Int), (0 : Int), [])
noncomputable def report_Result_v22 (r_c : List AV) (r_fs : List AV) (r_n : Int) (r_tm : Int) : Option (Nat × List AV × List AV × Int × Int × List AV) := Iter (report_Result_l0_step ((slices_ContainsFunc r_fs).getD false) r_fs (↑r_fs.length : Int)) ((1 : Nat), (0 : Int), r_c, r_fs, r_n, r_tm, [AV.list (1 : Nat) (List.take (report_Result_v27 r_c) (List.drop (0 : Nat) (report_Result_v28 r_c)))])
noncomputable def report_Result_v17 (r_c : List AV) (r_fs : List AV) (r_n : Int) (r_tm : Int) : Nat × List AV × List AV × Int × Int × List AV := (report_Result_v22 r_c r_fs r_n r_tm).getD ((0 : Nat), [], [], (0 : Int), (0 : Int), [])
noncomputable def report_Result_v19 (r_c : List AV) (r_fs : List AV) (r_n : Int) (r_tm : Int) : List AV × Int × Int × List AV := (report_Result_v21 r_c r_fs r_n r_tm).snd.snd
noncomputable def report_Result_v20 (r_c : List AV) (r_fs : List AV) (r_n : Int) (r_tm : Int) : Nat := (report_Result_v21 r_c r_fs r_n r_tm).fst
noncomputable def report_Result_v11 (r_c : List AV) (r_fs : List AV) (r_n : Int) (r_tm : Int) : Int := (↑(report_Result_v19 r_c r_fs r_n r_tm).fst.length : Int)
noncomputable def report_Result_v15 (r_c : List AV) (r_fs : List AV) (r_n : Int) (r_tm : Int) : List AV × Int × Int × List AV := (report_Result_v17 r_c r_fs r_n r_tm).snd.snd
noncomputable def report_Result_v16 (r_c : List AV) (r_fs : List AV) (r_n : Int) (r_tm : Int) : Nat := (report_Result_v17 r_c r_fs r_n r_tm).fst
noncomputable def report_Result_v18 (r_c : List AV) (r_fs : List AV) (r_n : Int) (r_tm : Int) : List AV := (report_Result_v19 r_c r_fs r_n r_tm).snd.snd.snd
noncomputable def report_Result_v2 (r_c : List AV) (r_fs : List AV) (r_n : Int) (r_tm : Int) : Bool := decide ((0 : Nat) + report_Result_v20 r_c r_fs r_n r_tm ≤ (report_Result_v18 r_c r_fs r_n r_tm).length) && true
noncomputable def report_Result_v3 (r_c : List AV) (r_fs : List AV) (r_n : Int) (r_tm : Int) : Bool := decide (report_Result_v11 r_c r_fs r_n r_tm ≤ (9223372036854775807 : Int))
noncomputable def report_Result_v8 (r_c : List AV) (r_fs : List AV) (r_n : Int) (r_tm : Int) : Int := (↑(report_Result_v15 r_c r_fs r_n r_tm).fst.length : Int)
noncomputable def report_Result_v13 (r_c : List AV) (r_fs : List AV) (r_n : Int) (r_tm : Int) : Option (List UInt8) := report_table (List.take (report_Result_v20 r_c r_fs r_n r_tm) (List.drop (0 : Nat) (report_Result_v18 r_c r_fs r_n r_tm)))
noncomputable def report_Result_v14 (r_c : List AV) (r_fs : List AV) (r_n : Int) (r_tm : Int) : List AV := (report_Result_v15 r_c r_fs r_n r_tm).snd.snd.snd
noncomputable def report_Result_v32 (r_c : List AV) (r_fs : List AV) (r_n : Int) (r_tm : Int) : Option (List UInt8) := report_line [(32 : UInt8)] [AV.str (Lib.itoa (report_Result_v11 r_c r_fs r_n r_tm)), AV.str [(114 : UInt8), (111 : UInt8), (119 : UInt8), (115 : UInt8)]]
noncomputable def report_Result_v36 (r_c : List AV) (r_fs : List AV) (r_n : Int) (r_tm : Int) : Option (List UInt8) := report_line [(32 : UInt8)] [AV.str (Lib.itoa (report_Result_v11 r_c r_fs r_n r_tm)), AV.str [(114 : UInt8), (111 : UInt8), (119 : UInt8)]]
noncomputable def report_Result_v0 (r_c : List AV) (r_fs : List AV) (r_n : Int) (r_tm : Int) : Bool := decide ((0 : Nat) + report_Result_v16 r_c r_fs r_n r_tm ≤ (report_Result_v14 r_c r_fs r_n r_tm).length) && true
noncomputable def report_Result_v1 (r_c : List AV) (r_fs : List AV) (r_n : Int) (r_tm : Int) : Bool := decide (report_Result_v8 r_c r_fs r_n r_tm ≤ (9223372036854775807 : Int))
noncomputable def report_Result_v7 (r_c : List AV) (r_fs : List AV) (r_n : Int) (r_tm : Int) : List UInt8 := (report_Result_v13 r_c r_fs r_n r_tm).getD []
noncomputable def report_Result_v10 (r_c : List AV) (r_fs : List AV) (r_n : Int) (r_tm : Int) : Option (List UInt8) := report_table (List.take (report_Result_v16 r_c r_fs r_n r_tm) (List.drop (0 : Nat) (report_Result_v14 r_c r_fs r_n r_tm)))
noncomputable def report_Result_v12 (r_c : List AV) (r_fs : List AV) (r_n : Int) (r_tm : Int) : Bool := (report_Result_v13 r_c r_fs r_n r_tm).isSome
noncomputable def report_Result_v29 (r_c : List AV) (r_fs : List AV) (r_n : Int) (r_tm : Int) : List UInt8 := (report_Result_v32 r_c r_fs r_n r_tm).getD []
noncomputable def report_Result_v33 (r_c : List AV) (r_fs : List AV) (r_n : Int) (r_tm : Int) : Option (List UInt8) := report_line [(32 : UInt8)] [AV.str (Lib.itoa (report_Result_v8 r_c r_fs r_n r_tm)), AV.str [(114 : UInt8), (111 : UInt8), (119 : UInt8), (115 : UInt8)]]
noncomputable def report_Result_v35 (r_c : List AV) (r_fs : List AV) (r_n : Int) (r_tm : Int) : List UInt8 := (report_Result_v36 r_c r_fs r_n r_tm).getD []
noncomputable def report_Result_v37 (r_c : List AV) (r_fs : List AV) (r_n : Int) (r_tm : Int) : Option (List UInt8) := report_line [(32 : UInt8)] [AV.str (Lib.itoa (report_Result_v8 r_c r_fs r_n r_tm)), AV.str [(114 : UInt8), (111 : UInt8), (119 : UInt8)]]
noncomputable def report_Result_v5 (r_c : List AV) (r_fs : List AV) (r_n : Int) (r_tm : Int) : List UInt8 := (report_Result_v10 r_c r_fs r_n r_tm).getD []
noncomputable def report_Result_v9 (r_c : List AV) (r_fs : List AV) (r_n : Int) (r_tm : Int) : Bool := (report_Result_v10 r_c r_fs r_n r_tm).isSome
noncomputable def report_Result_v30 (r_c : List AV) (r_fs : List AV) (r_n : Int) (r_tm : Int) : List UInt8 := (report_Result_v33 r_c r_fs r_n r_tm).getD []
noncomputable def report_Result_v34 (r_c : List AV) (r_fs : List AV) (r_n : Int) (r_tm : Int) : List UInt8 := (report_Result_v37 r_c r_fs r_n r_tm).getD []
noncomputable def report_Result_t {T : Type} (r_c : List AV) (r_fs : List AV) (r_n : Int) (r_tm : Int) (δ : T) (κ : List UInt8 → T) : T := br ((↑r_c.length : Int) == (0 : Int)) (br (r_n != (0 : Int)) (br (decide ((-9223372036854775808 : Int) ≤ r_n) && decide (r_n ≤ (9223372036854775807 : Int))) (br (decide ((6 : Nat) + (Lib.itoa r_n).length ≤ (4611686018427387904 : Nat))) (br (r_tm != (0 : Int)) (br (report_Result_v4 r_c r_fs r_n r_tm) (br (report_Result_v6 r_c r_fs r_n r_tm) (br ((report_Result_v24 r_n r_tm).isSome) (κ ((report_Result_v24 r_n r_tm).getD [])) (δ)) (δ)) (δ)) (br ((report_Result_v25 r_n).isSome) (κ ((report_Result_v25 r_n).getD [])) (δ))) (δ)) (δ)) (br (r_tm != (0 : Int)) (br (report_Result_v4 r_c r_fs r_n r_tm) (br (report_Result_v6 r_c r_fs r_n r_tm) (br ((report_Result_v26 r_tm).isSome) (κ ((report_Result_v26 r_tm).getD [])) (δ)) (δ)) (δ)) (κ ((report_line [(44 : UInt8), (32 : UInt8)] [AV.str [(111 : UInt8), (107 : UInt8)]]).getD [])))) (br ((slices_ContainsFunc r_fs).isSome) (br ((report_names_M r_c).isSome) (br ((slices_ContainsFunc r_fs).getD false) (br (report_Result_v31 r_c == ((report_names_M r_c).getD ((0 : Nat), [])).snd.length && (decide (report_Result_v27 r_c * (16 : Nat) ≤ (140737488355328 : Nat)) && decide (report_Result_v27 r_c ≤ (4611686018427387904 : Nat)))) (br (decide ((0 : Nat) + report_Result_v27 r_c ≤ (report_Result_v28 r_c).length) && true) (br ((report_Result_v22 r_c r_fs r_n r_tm).isSome) (br (report_Result_v8 r_c r_fs r_n r_tm == (1 : Int)) (br (report_Result_v0 r_c r_fs r_n r_tm) (br (report_Result_v9 r_c r_fs r_n r_tm) (br (report_Result_v1 r_c r_fs r_n r_tm) (br ((report_Result_v37 r_c r_fs r_n r_tm).isSome) (br (decide ((report_Result_v5 r_c r_fs r_n r_tm).length + (report_Result_v34 r_c r_fs r_n r_tm).length ≤ (4611686018427387904 : Nat))) (κ (report_Result_v5 r_c r_fs r_n r_tm ++ report_Result_v34 r_c r_fs r_n r_tm)) (δ)) (δ)) (δ)) (δ)) (δ)) (br (report_Result_v0 r_c r_fs r_n r_tm) (br (report_Result_v9 r_c r_fs r_n r_tm) (br (report_Result_v1 r_c r_fs r_n r_tm) (br ((report_Result_v33 r_c r_fs r_n r_tm).isSome) (br (decide ((report_Result_v5 r_c r_fs r_n r_tm).length + (report_Result_v30 r_c r_fs r_n r_tm).length ≤ (4611686018427387904 : Nat))) (κ (report_Result_v5 r_c r_fs r_n r_tm ++ report_Result_v30 r_c r_fs r_n r_tm)) (δ)) (δ)) (δ)) (δ)) (δ))) (δ)) (δ)) (δ)) (br (decide ((0 : Nat) + report_Result_v31 r_c ≤ ((report_names_M r_c).getD ((0 : Nat), [])).snd.length) && true) (br ((report_Result_v23 r_c r_fs r_n r_tm).isSome) (br (report_Result_v11 r_c r_fs r_n r_tm == (1 : Int)) (br (report_Result_v2 r_c r_fs r_n r_tm) (br (report_Result_v12 r_c r_fs r_n r_tm) (br (report_Result_v3 r_c r_fs r_n r_tm) (br ((report_Result_v36 r_c r_fs r_n r_tm).isSome) (br (decide ((report_Result_v7 r_c r_fs r_n r_tm).length + (report_Result_v35 r_c r_fs r_n r_tm).length ≤ (4611686018427387904 : Nat))) (κ (report_Result_v7 r_c r_fs r_n r_tm ++ report_Result_v35 r_c r_fs r_n r_tm)) (δ)) (δ)) (δ)) (δ)) (δ)) (br (report_Result_v2 r_c r_fs r_n r_tm) (br (report_Result_v12 r_c r_fs r_n r_tm) (br (report_Result_v3 r_c r_fs r_n r_tm) (br ((report_Result_v32 r_c r_fs r_n r_tm).isSome) (br (decide ((report_Result_v7 r_c r_fs r_n r_tm).length + (report_Result_v29 r_c r_fs r_n r_tm).length ≤ (4611686018427387904 : Nat))) (κ (report_Result_v7 r_c r_fs r_n r_tm ++ report_Result_v29 r_c r_fs r_n r_tm)) (δ)) (δ)) (δ)) (δ)) (δ))) (δ)) (δ))) (δ)) (δ))
noncomputable def report_Result (r_c : List AV) (r_fs : List AV) (r_n : Int) (r_tm : Int) : Option (List UInt8) := report_Result_t r_c r_fs r_n r_tm none some
theorem report_Result_x (r_c : List AV) (r_fs : List AV) (r_n : Int) (r_tm : Int) : Enc (fun (p : List UInt8) => ((AV.str p) : AV)) (report_Result r_c r_fs r_n r_tm) (XF Tryz.prog report_Result_E1 Tryz.f11 (Tryz.f11.body.getD .skip) [AV.agg [AV.list (3 : Nat) r_c, AV.list (3 : Nat) r_fs, AV.int IntKind.i64 r_n, AV.int IntKind.i64 r_tm]]) := by
  have h : XF Tryz.prog report_Result_E1 Tryz.f11 (Tryz.f11.body.getD .skip) [AV.agg [AV.list (3 : Nat) r_c, AV.list (3 : Nat) r_fs, AV.int IntKind.i64 r_n, AV.int IntKind.i64 r_tm]] = report_Result_t r_c r_fs r_n r_tm none (fun (p : List UInt8) => some ((AV.str p) : AV)) := by kernel_rfl
  rw [h]; unfold report_Result report_Result_t; repeat' (first | exact Enc.none | exact Enc.some rfl | refine Enc.br ?_ ?_)
noncomputable def report_Result_o : List AV → Option (Bool × AV) := ocOf (sCons (sAgg (sCons (sList (3 : Nat) pAny) (sCons (sList (3 : Nat) pAny) (sCons (sEq (pInt IntKind.i64)) (sCons (sEq (pInt IntKind.i64)) sNil))))) sNil) fun ((r_c, (r_fs, (r_n, (r_tm, _)))), _) => ((report_Result r_c r_fs r_n r_tm).isSome, (AV.str ((report_Result r_c r_fs r_n r_tm).getD [])))
theorem report_Result_c : OcOk Tryz.prog ITryz 11 (report_Result_o) := ocOk_of fun vv rr hh => by
  obtain ⟨⟨r_c, ⟨r_fs, ⟨r_n, ⟨r_tm, _⟩⟩⟩⟩, _⟩ := vv
  obtain ⟨hh1, hh2⟩ := Prod.mk.inj hh
  refine good_pin (p := report_Result_E1.pin) (good_XF mxTryz (inv0Ok Tryz.prog _) rfl report_Result_E1_ok Tryz.func11 rfl (by kernel_rfl) report_Result_E1_lk11 ((report_Result_x _ _ _ _ _ (getD_of_isSome (d := []) hh1)).trans ?_))
  exact congrArg some hh2


noncomputable def EK6_1 : Env := EK5.with 11 report_Result_o

theorem EK6_1_ok : OrcOk Tryz.prog ITryz EK6_1 := EK5_ok.with report_Result_c

noncomputable abbrev EK6 : Env := EK6_1

theorem EK6_ok : OrcOk Tryz.prog ITryz EK6 := EK6_1_ok

end Go.Sim.M
