/- Functions of the program as the executor found them: printed by program, checked by the kernel. -/
import Derived.Test.YtpnibjljhfgjaaaGreatDoorKA
set_option linter.unusedVariables false
set_option linter.unusedSimpArgs false
set_option maxRecDepth 100000
namespace Go.Sim.M
open Go.RowKit Go.Proofs

/-- The environment of bitemporal/bitemporallaw55.ReportViolations: its loops so far. -/

noncomputable def law55_ReportViolations_E0 : Env := EKA.fn 29 0 (lsOf []) (lpsOf [])

theorem law55_ReportViolations_E0_ok : OrcOk Tryz.prog (ITryz.at 0) law55_ReportViolations_E0 := EKA_ok.fn

theorem law55_ReportViolations_E0_lk5 : LoOk Tryz.prog (ITryz.at law55_ReportViolations_E0.pin) law55_ReportViolations_E0 (Tryz.f5.body.getD .skip) := loOk_nil (by kernel_rfl)

/- 15 nodes -/
noncomputable def law55_ReportViolations_t {T : Type} (v_k : Int) (v_tb : List UInt8) (v_ix : Int) (v_r : List AV) (v_f : Int) (v_t : Int) (δ : T) (κ : Bool → T) : T := br (decide ((↑v_r.length : Int) > (100 : Int))) (κ (true)) (br (decide ((↑v_tb.length : Int) > (2000 : Int))) (κ (true)) (br ((law55_tame [AV.int IntKind.i64 v_ix]).isSome) (br (!(law55_tame [AV.int IntKind.i64 v_ix]).getD false) (κ (true)) (br ((report_Violation v_k v_tb v_ix v_r v_f v_t).isSome) (br ((ref55_Violation v_k v_tb v_ix v_r v_f v_t).isSome) (br ((report_Violation v_k v_tb v_ix v_r v_f v_t).getD [] == (ref55_Violation v_k v_tb v_ix v_r v_f v_t).getD []) (κ (true)) (κ (false))) (δ)) (δ))) (δ)))
noncomputable def law55_ReportViolations (v_k : Int) (v_tb : List UInt8) (v_ix : Int) (v_r : List AV) (v_f : Int) (v_t : Int) : Option (Bool) := law55_ReportViolations_t v_k v_tb v_ix v_r v_f v_t none some
theorem law55_ReportViolations_x (v_k : Int) (v_tb : List UInt8) (v_ix : Int) (v_r : List AV) (v_f : Int) (v_t : Int) : Enc (fun (p : Bool) => ((AV.bool p) : AV)) (law55_ReportViolations v_k v_tb v_ix v_r v_f v_t) (XF Tryz.prog law55_ReportViolations_E0 Tryz.f5 (Tryz.f5.body.getD .skip) [AV.agg [AV.int IntKind.i64 v_k, AV.str v_tb, AV.int IntKind.i64 v_ix, AV.list (3 : Nat) v_r, AV.int IntKind.i64 v_f, AV.int IntKind.i64 v_t]]) := by
  have h : XF Tryz.prog law55_ReportViolations_E0 Tryz.f5 (Tryz.f5.body.getD .skip) [AV.agg [AV.int IntKind.i64 v_k, AV.str v_tb, AV.int IntKind.i64 v_ix, AV.list (3 : Nat) v_r, AV.int IntKind.i64 v_f, AV.int IntKind.i64 v_t]] = law55_ReportViolations_t v_k v_tb v_ix v_r v_f v_t none (fun (p : Bool) => some ((AV.bool p) : AV)) := by kernel_rfl
  rw [h]; unfold law55_ReportViolations law55_ReportViolations_t; repeat' (first | exact Enc.none | exact Enc.some rfl | refine Enc.br ?_ ?_)
noncomputable def law55_ReportViolations_o : List AV → Option (Bool × AV) := ocOf (sCons (sAgg (sCons (sEq (pInt IntKind.i64)) (sCons (sEq pStr) (sCons (sEq (pInt IntKind.i64)) (sCons (sList (3 : Nat) pAny) (sCons (sEq (pInt IntKind.i64)) (sCons (sEq (pInt IntKind.i64)) sNil))))))) sNil) fun ((v_k, (v_tb, (v_ix, (v_r, (v_f, (v_t, _)))))), _) => ((law55_ReportViolations v_k v_tb v_ix v_r v_f v_t).isSome, (AV.bool ((law55_ReportViolations v_k v_tb v_ix v_r v_f v_t).getD false)))
theorem law55_ReportViolations_c : OcOk Tryz.prog ITryz 5 (law55_ReportViolations_o) := ocOk_of fun vv rr hh => by
  obtain ⟨⟨v_k, ⟨v_tb, ⟨v_ix, ⟨v_r, ⟨v_f, ⟨v_t, _⟩⟩⟩⟩⟩⟩, _⟩ := vv
  obtain ⟨hh1, hh2⟩ := Prod.mk.inj hh
  refine good_pin (p := law55_ReportViolations_E0.pin) (good_XF mxTryz (inv0Ok Tryz.prog _) rfl law55_ReportViolations_E0_ok Tryz.func5 rfl (by kernel_rfl) law55_ReportViolations_E0_lk5 ((law55_ReportViolations_x _ _ _ _ _ _ _ (getD_of_isSome (d := false) hh1)).trans ?_))
  exact congrArg some hh2


noncomputable def EKL_1 : Env := EKA.with 5 law55_ReportViolations_o

theorem EKL_1_ok : OrcOk Tryz.prog ITryz EKL_1 := EKA_ok.with law55_ReportViolations_c

/-- The environment of bitemporal/bitemporallaw55.ReportResults: its loops so far. -/

noncomputable def law55_ReportResults_E0 : Env := EKL_1.fn 24 0 (lsOf []) (lpsOf [])

theorem law55_ReportResults_E0_ok : OrcOk Tryz.prog (ITryz.at 0) law55_ReportResults_E0 := EKL_1_ok.fn

theorem law55_ReportResults_E0_lk3 : LoOk Tryz.prog (ITryz.at law55_ReportResults_E0.pin) law55_ReportResults_E0 (Tryz.f3.body.getD .skip) := loOk_nil (by kernel_rfl)

/- 15 nodes -/
noncomputable def law55_ReportResults_t {T : Type} (r_c : List AV) (r_fs : List AV) (r_n : Int) (r_tm : Int) (δ : T) (κ : Bool → T) : T := br ((ref55_Tame r_c r_fs r_n r_tm).isSome) (br (!(ref55_Tame r_c r_fs r_n r_tm).getD false) (κ (true)) (br ((law55_tame [AV.int IntKind.i64 r_n, AV.int IntKind.i64 r_tm]).isSome) (br (!(law55_tame [AV.int IntKind.i64 r_n, AV.int IntKind.i64 r_tm]).getD false) (κ (true)) (br ((report_Result r_c r_fs r_n r_tm).isSome) (br ((ref55_Result r_c r_fs r_n r_tm).isSome) (br ((report_Result r_c r_fs r_n r_tm).getD [] == (ref55_Result r_c r_fs r_n r_tm).getD []) (κ (true)) (κ (false))) (δ)) (δ))) (δ))) (δ)
noncomputable def law55_ReportResults (r_c : List AV) (r_fs : List AV) (r_n : Int) (r_tm : Int) : Option (Bool) := law55_ReportResults_t r_c r_fs r_n r_tm none some
theorem law55_ReportResults_x (r_c : List AV) (r_fs : List AV) (r_n : Int) (r_tm : Int) : Enc (fun (p : Bool) => ((AV.bool p) : AV)) (law55_ReportResults r_c r_fs r_n r_tm) (XF Tryz.prog law55_ReportResults_E0 Tryz.f3 (Tryz.f3.body.getD .skip) [AV.agg [AV.list (3 : Nat) r_c, AV.list (3 : Nat) r_fs, AV.int IntKind.i64 r_n, AV.int IntKind.i64 r_tm]]) := by
  have h : XF Tryz.prog law55_ReportResults_E0 Tryz.f3 (Tryz.f3.body.getD .skip) [AV.agg [AV.list (3 : Nat) r_c, AV.list (3 : Nat) r_fs, AV.int IntKind.i64 r_n, AV.int IntKind.i64 r_tm]] = law55_ReportResults_t r_c r_fs r_n r_tm none (fun (p : Bool) => some ((AV.bool p) : AV)) := by kernel_rfl
  rw [h]; unfold law55_ReportResults law55_ReportResults_t; repeat' (first | exact Enc.none | exact Enc.some rfl | refine Enc.br ?_ ?_)
noncomputable def law55_ReportResults_o : List AV → Option (Bool × AV) := ocOf (sCons (sAgg (sCons (sList (3 : Nat) pAny) (sCons (sList (3 : Nat) pAny) (sCons (sEq (pInt IntKind.i64)) (sCons (sEq (pInt IntKind.i64)) sNil))))) sNil) fun ((r_c, (r_fs, (r_n, (r_tm, _)))), _) => ((law55_ReportResults r_c r_fs r_n r_tm).isSome, (AV.bool ((law55_ReportResults r_c r_fs r_n r_tm).getD false)))
theorem law55_ReportResults_c : OcOk Tryz.prog ITryz 3 (law55_ReportResults_o) := ocOk_of fun vv rr hh => by
  obtain ⟨⟨r_c, ⟨r_fs, ⟨r_n, ⟨r_tm, _⟩⟩⟩⟩, _⟩ := vv
  obtain ⟨hh1, hh2⟩ := Prod.mk.inj hh
  refine good_pin (p := law55_ReportResults_E0.pin) (good_XF mxTryz (inv0Ok Tryz.prog _) rfl law55_ReportResults_E0_ok Tryz.func3 rfl (by kernel_rfl) law55_ReportResults_E0_lk3 ((law55_ReportResults_x _ _ _ _ _ (getD_of_isSome (d := false) hh1)).trans ?_))
  exact congrArg some hh2


noncomputable def EKL_2 : Env := EKL_1.with 3 law55_ReportResults_o

theorem EKL_2_ok : OrcOk Tryz.prog ITryz EKL_2 := EKL_1_ok.with law55_ReportResults_c

/-- The environment of bitemporal/bitemporallaw55.ReportVersions: its loops so far. -/

noncomputable def law55_ReportVersions_E0 : Env := EKL_2.fn 59 0 (lsOf []) (lpsOf [])

theorem law55_ReportVersions_E0_ok : OrcOk Tryz.prog (ITryz.at 0) law55_ReportVersions_E0 := EKL_2_ok.fn

theorem law55_ReportVersions_E0_lk6_0 : LoOk Tryz.prog (ITryz.at law55_ReportVersions_E0.pin) law55_ReportVersions_E0 (loopAt Tryz.f6 0) := loOk_nil (by kernel_rfl)

/- 25 nodes -/
noncomputable def law55_ReportVersions_l0_v0 (v : List AV) (t11 : Int) : Bool := decide ((0 : Int) ≤ t11) && decide (t11 < (↑v.length : Int))
noncomputable def law55_ReportVersions_l0_v1 (v : List AV) (t11 : Int) : Option Bool := law55_tame [AV.int IntKind.i64 ((v.getD t11.toNat AV.top).cells.getD (0 : Nat) AV.top).toInt, AV.int IntKind.i64 ((v.getD t11.toNat AV.top).cells.getD (7 : Nat) AV.top).toInt, AV.int IntKind.i64 ((v.getD t11.toNat AV.top).cells.getD (8 : Nat) AV.top).toInt]
noncomputable def law55_ReportVersions_l0_t {T : Type} (l : List AV) (v : List AV) (t10 : Int) (t11 : Int) (r_0 : List AV) (r_1 : Int) (r_2 : Int) (r_n : Nat) (buf0_xs : List AV) (δ : T) (κl : (Int × List AV × Int × Int × Nat × List AV) → T) (κr : (Bool × (Bool × List AV × Nat × Int × Int × List AV) × (List AV × Nat × Int × Int × List AV)) → T) : T := br (decide (t11 < t10)) (br (law55_ReportVersions_l0_v0 v t11) (br (decide (t11.toNat < v.length) && hasSh1 (Sh.list (3 : Nat)) ((v.getD t11.toNat AV.top).cells.getD (2 : Nat) AV.top)) (br (r_n == buf0_xs.length && (decide ((r_n + (1 : Nat)) * (40 : Nat) ≤ (140737488355328 : Nat)) && decide (r_n + (1 : Nat) ≤ (4611686018427387904 : Nat)))) (br (law55_ReportVersions_l0_v0 v t11) (br (decide (t11.toNat < v.length) && hasSh1 (Sh.int IntKind.i64) ((v.getD t11.toNat AV.top).cells.getD (0 : Nat) AV.top)) (br (law55_ReportVersions_l0_v0 v t11) (br (decide (t11.toNat < v.length) && hasSh1 (Sh.int IntKind.i64) ((v.getD t11.toNat AV.top).cells.getD (7 : Nat) AV.top)) (br (law55_ReportVersions_l0_v0 v t11) (br (decide (t11.toNat < v.length) && hasSh1 (Sh.int IntKind.i64) ((v.getD t11.toNat AV.top).cells.getD (8 : Nat) AV.top)) (br ((law55_ReportVersions_l0_v1 v t11).isSome) (br (!(law55_ReportVersions_l0_v1 v t11).getD false) (κr (true, (true, r_0, r_n + (1 : Nat), r_1, r_2, buf0_xs ++ [AV.agg [AV.list (3 : Nat) ((v.getD t11.toNat AV.top).cells.getD (2 : Nat) AV.top).toList, AV.int IntKind.i64 (0 : Int), AV.int IntKind.i64 (0 : Int)]]), ([], 0, 0, 0, []))) (κl (IntKind.i64.wrap (t11 + (1 : Int)), r_0, r_1, r_2, r_n + (1 : Nat), buf0_xs ++ [AV.agg [AV.list (3 : Nat) ((v.getD t11.toNat AV.top).cells.getD (2 : Nat) AV.top).toList, AV.int IntKind.i64 (0 : Int), AV.int IntKind.i64 (0 : Int)]]))) (δ)) (δ)) (δ)) (δ)) (δ)) (δ)) (δ)) (δ)) (δ)) (δ)) (κr (false, (false, [], 0, 0, 0, []), (r_0, r_n, r_1, r_2, buf0_xs)))
noncomputable def law55_ReportVersions_l0_step (l : List AV) (v : List AV) (t10 : Int) : (Int × List AV × Int × Int × Nat × List AV) → Option ((Int × List AV × Int × Int × Nat × List AV) ⊕ (Bool × (Bool × List AV × Nat × Int × Int × List AV) × (List AV × Nat × Int × Int × List AV))) := fun (t11, r_0, r_1, r_2, r_n, buf0_xs) => law55_ReportVersions_l0_t l v t10 t11 r_0 r_1 r_2 r_n buf0_xs none (fun s => some (.inl s)) (fun p => some (.inr p))
noncomputable def law55_ReportVersions_l0_L (l : List AV) (v : List AV) (t10 : Int) : (Int × List AV × Int × Int × Nat × List AV) → List AV × List Box := fun (t11, r_0, r_1, r_2, r_n, buf0_xs) => ([AV.list (3 : Nat) l, AV.list (9 : Nat) v, AV.own 0 0 0 0, AV.int IntKind.i64 t10, AV.int IntKind.i64 t11], [⟨0, (4 : Nat), (25 : Nat), [AV.agg [AV.list (3 : Nat) r_0, AV.osl 1 0 0 r_n, AV.int IntKind.i64 r_1, AV.int IntKind.i64 r_2]], false, false⟩, ⟨0, (3 : Nat), (45 : Nat), buf0_xs, false, true⟩])
noncomputable def law55_ReportVersions_l0_out (l : List AV) (v : List AV) (t10 : Int) : (Bool × (Bool × List AV × Nat × Int × Int × List AV) × (List AV × Nat × Int × Int × List AV)) → LR := fun p => (.node p.1 (.leaf (Exit.ret) [AV.list (3 : Nat) l, AV.list (9 : Nat) v, AV.bool p.2.1.1, AV.own 0 0 0 0] [⟨0, (4 : Nat), (25 : Nat), [AV.agg [AV.list (3 : Nat) p.2.1.2.1, AV.osl 1 0 0 p.2.1.2.2.1, AV.int IntKind.i64 p.2.1.2.2.2.1, AV.int IntKind.i64 p.2.1.2.2.2.2.1]], false, false⟩, ⟨0, (3 : Nat), (45 : Nat), p.2.1.2.2.2.2.2, false, true⟩]) (.leaf (Exit.exit (0 : Nat)) [AV.list (3 : Nat) l, AV.list (9 : Nat) v, AV.top, AV.own 0 0 0 0] [⟨0, (4 : Nat), (25 : Nat), [AV.agg [AV.list (3 : Nat) p.2.2.1, AV.osl 1 0 0 p.2.2.2.1, AV.int IntKind.i64 p.2.2.2.2.1, AV.int IntKind.i64 p.2.2.2.2.2.1]], false, false⟩, ⟨0, (3 : Nat), (45 : Nat), p.2.2.2.2.2.2, false, true⟩]))
noncomputable abbrev law55_ReportVersions_l0_X (vals : List AV) (H : List Box) := XR Tryz.prog law55_ReportVersions_E0 [0, 1, 5, 10, 11] [0, 1, 4, 5] [] (loopAt Tryz.f6 0) vals H
theorem law55_ReportVersions_l0_r (l : List AV) (v : List AV) (t10 : Int) (s : Int × List AV × Int × Int × Nat × List AV) : Enc (encR (law55_ReportVersions_l0_L l v t10) (law55_ReportVersions_l0_out l v t10)) (law55_ReportVersions_l0_step l v t10 s) (law55_ReportVersions_l0_X (law55_ReportVersions_l0_L l v t10 s).1 (law55_ReportVersions_l0_L l v t10 s).2) := by
  obtain ⟨t11, r_0, r_1, r_2, r_n, buf0_xs⟩ := s
  have h : law55_ReportVersions_l0_X (law55_ReportVersions_l0_L l v t10 (t11, r_0, r_1, r_2, r_n, buf0_xs)).1 (law55_ReportVersions_l0_L l v t10 (t11, r_0, r_1, r_2, r_n, buf0_xs)).2 = law55_ReportVersions_l0_t l v t10 t11 r_0 r_1 r_2 r_n buf0_xs none (fun s => some (encR (law55_ReportVersions_l0_L l v t10) (law55_ReportVersions_l0_out l v t10) (.inl s))) (fun p => some (encR (law55_ReportVersions_l0_L l v t10) (law55_ReportVersions_l0_out l v t10) (.inr p))) := by kernel_rfl
  rw [h]; unfold law55_ReportVersions_l0_step law55_ReportVersions_l0_t; repeat' (first | exact Enc.none | exact Enc.some rfl | refine Enc.br ?_ ?_)
noncomputable def law55_ReportVersions_l0_lp : Lp := lpOf [0, 1, 5, 10, 11] [0, 1, 4, 5] [] (pCons (pList (3 : Nat) pAny) (pCons (pList (9 : Nat) pAny) (pCons (pOwn (0 : Nat) (0 : Nat) (0 : Nat) (0 : Nat)) (pCons (pInt IntKind.i64) (pCons (pInt IntKind.i64) pNil))))) (pCons (pBox (0 : Nat) (4 : Nat) (25 : Nat) false false (pCons (pAgg (pCons (pList (3 : Nat) pAny) (pCons (pOsl (1 : Nat) (0 : Nat) (0 : Nat)) (pCons (pInt IntKind.i64) (pCons (pInt IntKind.i64) pNil))))) pNil)) (pCons (pBox (0 : Nat) (3 : Nat) (45 : Nat) false true pAny) pNil)) fun (l, (v, (_, (t10, (t11, _))))) (((r_0, (r_n, (r_1, (r_2, _)))), _), (buf0_xs, _)) => ((Iter (law55_ReportVersions_l0_step l v t10) (t11, r_0, r_1, r_2, r_n, buf0_xs)).isSome, law55_ReportVersions_l0_out l v t10 ((Iter (law55_ReportVersions_l0_step l v t10) (t11, r_0, r_1, r_2, r_n, buf0_xs)).getD (false, (false, [], 0, 0, 0, []), ([], 0, 0, 0, []))))
theorem law55_ReportVersions_l0_lok : LoopOk Tryz.prog (ITryz.at law55_ReportVersions_E0.pin) law55_ReportVersions_E0.nt (loopAt Tryz.f6 0) law55_ReportVersions_l0_lp := lok_of fun vv bb rr hh => by
  obtain ⟨l, ⟨v, ⟨_, ⟨t10, ⟨t11, _⟩⟩⟩⟩⟩ := vv
  obtain ⟨⟨⟨r_0, ⟨r_n, ⟨r_1, ⟨r_2, _⟩⟩⟩⟩, _⟩, ⟨buf0_xs, _⟩⟩ := bb
  obtain ⟨hh1, rfl⟩ := Prod.mk.inj hh
  exact loop_of_XR mxTryz (inv0Ok Tryz.prog _) rfl law55_ReportVersions_E0_ok law55_ReportVersions_E0_lk6_0 (law55_ReportVersions_l0_L l v t10) (law55_ReportVersions_l0_out l v t10) (fun p => by simp only [law55_ReportVersions_l0_out, LR.eval]; first | (simp; done) | (repeat' split <;> simp)) (law55_ReportVersions_l0_r l v t10) (s := (t11, r_0, r_1, r_2, r_n, buf0_xs)) (getD_of_isSome hh1)


/-- The environment of bitemporal/bitemporallaw55.ReportVersions: its loops so far. -/

noncomputable def law55_ReportVersions_E1 : Env := EKL_2.fn 59 0 (lsOf []) (lpsOf [(3, law55_ReportVersions_l0_lp)])

theorem law55_ReportVersions_E1_ok : OrcOk Tryz.prog (ITryz.at 0) law55_ReportVersions_E1 := EKL_2_ok.fn

theorem law55_ReportVersions_E1_lk6 : LoOk Tryz.prog (ITryz.at law55_ReportVersions_E1.pin) law55_ReportVersions_E1 (Tryz.f6.body.getD .skip) := loOk_all (ls := [loopAt Tryz.f6 0]) (by kernel_rfl) (fun l hl lp hs => by
  simp only [List.mem_cons, List.not_mem_nil, or_false] at hl
  rcases hl with rfl
  · rw [show law55_ReportVersions_E1.lp (codeId (loopAt Tryz.f6 0)) = some law55_ReportVersions_l0_lp by kernel_rfl] at hs
    simp only [Option.some.injEq] at hs; subst hs; exact law55_ReportVersions_l0_lok)

/- 49 nodes -/
noncomputable def law55_ReportVersions_v9 (l : List AV) (v : List AV) : Option (Bool × (Bool × List AV × Nat × Int × Int × List AV) × List AV × Nat × Int × Int × List AV) := Iter (law55_ReportVersions_l0_step l v (↑v.length : Int)) ((1 : Int), l, (0 : Int), (0 : Int), (1 : Nat), [AV.agg [AV.list (3 : Nat) ((v.getD (0 : Nat) AV.top).cells.getD (2 : Nat) AV.top).toList, AV.int IntKind.i64 (0 : Int), AV.int IntKind.i64 (0 : Int)]])
noncomputable def law55_ReportVersions_v10 (v : List AV) : Bool := decide ((0 : Int) < (↑v.length : Int))
noncomputable def law55_ReportVersions_v11 (v : List AV) : Option Bool := law55_tame [AV.int IntKind.i64 ((v.getD (0 : Nat) AV.top).cells.getD (0 : Nat) AV.top).toInt, AV.int IntKind.i64 ((v.getD (0 : Nat) AV.top).cells.getD (7 : Nat) AV.top).toInt, AV.int IntKind.i64 ((v.getD (0 : Nat) AV.top).cells.getD (8 : Nat) AV.top).toInt]
noncomputable def law55_ReportVersions_v12 (v : List AV) : Bool := decide ((0 : Nat) < v.length)
noncomputable def law55_ReportVersions_v8 (l : List AV) (v : List AV) : Bool × (Bool × List AV × Nat × Int × Int × List AV) × List AV × Nat × Int × Int × List AV := (law55_ReportVersions_v9 l v).getD (false, (false, [], (0 : Nat), (0 : Int), (0 : Int), []), [], (0 : Nat), (0 : Int), (0 : Int), [])
noncomputable def law55_ReportVersions_v7 (l : List AV) (v : List AV) : (Bool × List AV × Nat × Int × Int × List AV) × List AV × Nat × Int × Int × List AV := (law55_ReportVersions_v8 l v).snd
noncomputable def law55_ReportVersions_v6 (l : List AV) (v : List AV) : List AV × Nat × Int × Int × List AV := (law55_ReportVersions_v7 l v).snd
noncomputable def law55_ReportVersions_v5 (l : List AV) (v : List AV) : Nat × Int × Int × List AV := (law55_ReportVersions_v6 l v).snd
noncomputable def law55_ReportVersions_v3 (l : List AV) (v : List AV) : Nat := (law55_ReportVersions_v5 l v).fst
noncomputable def law55_ReportVersions_v4 (l : List AV) (v : List AV) : Int × Int × List AV := (law55_ReportVersions_v5 l v).snd
noncomputable def law55_ReportVersions_v2 (l : List AV) (v : List AV) : Int × List AV := (law55_ReportVersions_v4 l v).snd
noncomputable def law55_ReportVersions_v1 (l : List AV) (v : List AV) : List AV := (law55_ReportVersions_v2 l v).snd
noncomputable def law55_ReportVersions_v0 (l : List AV) (v : List AV) : Option Bool := ref55_Tame (law55_ReportVersions_v6 l v).fst (List.take (law55_ReportVersions_v3 l v) (List.drop (0 : Nat) (law55_ReportVersions_v1 l v))) (law55_ReportVersions_v4 l v).fst (law55_ReportVersions_v2 l v).fst
noncomputable def law55_ReportVersions_t {T : Type} (l : List AV) (v : List AV) (δ : T) (κ : Bool → T) : T := br (law55_ReportVersions_v10 v) (br (law55_ReportVersions_v10 v) (br (law55_ReportVersions_v12 v && hasSh1 (Sh.list (3 : Nat)) ((v.getD (0 : Nat) AV.top).cells.getD (2 : Nat) AV.top)) (br (law55_ReportVersions_v10 v) (br (law55_ReportVersions_v12 v && hasSh1 (Sh.int IntKind.i64) ((v.getD (0 : Nat) AV.top).cells.getD (0 : Nat) AV.top)) (br (law55_ReportVersions_v10 v) (br (law55_ReportVersions_v12 v && hasSh1 (Sh.int IntKind.i64) ((v.getD (0 : Nat) AV.top).cells.getD (7 : Nat) AV.top)) (br (law55_ReportVersions_v10 v) (br (law55_ReportVersions_v12 v && hasSh1 (Sh.int IntKind.i64) ((v.getD (0 : Nat) AV.top).cells.getD (8 : Nat) AV.top)) (br ((law55_ReportVersions_v11 v).isSome) (br (!(law55_ReportVersions_v11 v).getD false) (κ (true)) (br ((law55_ReportVersions_v9 l v).isSome) (br ((law55_ReportVersions_v8 l v).fst) (κ ((law55_ReportVersions_v7 l v).fst.fst)) (br (decide ((0 : Nat) + law55_ReportVersions_v3 l v ≤ (law55_ReportVersions_v1 l v).length) && true && true) (br ((law55_ReportVersions_v0 l v).isSome) (br (!(law55_ReportVersions_v0 l v).getD false) (κ (true)) (br ((report_Versions l v).isSome) (br ((ref55_Versions l v).isSome) (br ((report_Versions l v).getD [] == (ref55_Versions l v).getD []) (κ (true)) (κ (false))) (δ)) (δ))) (δ)) (δ))) (δ))) (δ)) (δ)) (δ)) (δ)) (δ)) (δ)) (δ)) (δ)) (δ)) (br ((ref55_Tame l [] (0 : Int) (0 : Int)).isSome) (br (!(ref55_Tame l [] (0 : Int) (0 : Int)).getD false) (κ (true)) (br ((report_Versions l v).isSome) (br ((ref55_Versions l v).isSome) (br ((report_Versions l v).getD [] == (ref55_Versions l v).getD []) (κ (true)) (κ (false))) (δ)) (δ))) (δ))
noncomputable def law55_ReportVersions (l : List AV) (v : List AV) : Option (Bool) := law55_ReportVersions_t l v none some
theorem law55_ReportVersions_x (l : List AV) (v : List AV) : Enc (fun (p : Bool) => ((AV.bool p) : AV)) (law55_ReportVersions l v) (XF Tryz.prog law55_ReportVersions_E1 Tryz.f6 (Tryz.f6.body.getD .skip) [AV.list (3 : Nat) l, AV.list (9 : Nat) v]) := by
  have h : XF Tryz.prog law55_ReportVersions_E1 Tryz.f6 (Tryz.f6.body.getD .skip) [AV.list (3 : Nat) l, AV.list (9 : Nat) v] = law55_ReportVersions_t l v none (fun (p : Bool) => some ((AV.bool p) : AV)) := by kernel_rfl
  rw [h]; unfold law55_ReportVersions law55_ReportVersions_t; repeat' (first | exact Enc.none | exact Enc.some rfl | refine Enc.br ?_ ?_)
noncomputable def law55_ReportVersions_o : List AV → Option (Bool × AV) := ocOf (sCons (sList (3 : Nat) pAny) (sCons (sList (9 : Nat) pAny) sNil)) fun (l, (v, _)) => ((law55_ReportVersions l v).isSome, (AV.bool ((law55_ReportVersions l v).getD false)))
theorem law55_ReportVersions_c : OcOk Tryz.prog ITryz 6 (law55_ReportVersions_o) := ocOk_of fun vv rr hh => by
  obtain ⟨l, ⟨v, _⟩⟩ := vv
  obtain ⟨hh1, hh2⟩ := Prod.mk.inj hh
  refine good_pin (p := law55_ReportVersions_E1.pin) (good_XF mxTryz (inv0Ok Tryz.prog _) rfl law55_ReportVersions_E1_ok Tryz.func6 rfl (by kernel_rfl) law55_ReportVersions_E1_lk6 ((law55_ReportVersions_x _ _ _ (getD_of_isSome (d := false) hh1)).trans ?_))
  exact congrArg some hh2


noncomputable def EKL_3 : Env := EKL_2.with 6 law55_ReportVersions_o

theorem EKL_3_ok : OrcOk Tryz.prog ITryz EKL_3 := EKL_2_ok.with law55_ReportVersions_c

/-- The environment of bitemporal/bitemporallaw55.ReportShape: its loops so far. -/

noncomputable def law55_ReportShape_E0 : Env := EKL_3.fn 89 0 (lsOf []) (lpsOf [])

theorem law55_ReportShape_E0_ok : OrcOk Tryz.prog (ITryz.at 0) law55_ReportShape_E0 := EKL_3_ok.fn

theorem law55_ReportShape_E0_lk7_1 : LoOk Tryz.prog (ITryz.at law55_ReportShape_E0.pin) law55_ReportShape_E0 (loopAt Tryz.f7 1) := loOk_nil (by kernel_rfl)

/- 11 nodes -/
noncomputable def law55_ReportShape_l1_t {T : Type} (v : List AV) (i : Int) (t12 : Int) (t13 : Int) (t22 : Int) (t23 : Int) (r_0 : List AV) (r_1 : List AV) (r_2 : Int) (r_3 : Int) (δ : T) (κl : (Int × List AV × List AV × Int × Int) → T) (κr : (Bool × (Bool × List AV × List AV × Int × Int) × (List AV × List AV × Int × Int)) → T) : T := br (decide (t23 < t22)) (br (decide ((0 : Int) ≤ i) && decide (i < (↑r_0.length : Int))) (br (decide (i.toNat < r_0.length) && hasSh1 Sh.str ((r_0.getD i.toNat AV.top).cells.getD (0 : Nat) AV.top)) (br (decide ((0 : Int) ≤ t23) && decide (t23 < (↑((r_0.getD i.toNat AV.top).cells.getD (0 : Nat) AV.top).toStr.length : Int))) (br ((↑(((r_0.getD i.toNat AV.top).cells.getD (0 : Nat) AV.top).toStr.getD t23.toNat (0 : UInt8)).toNat : Int) == (10 : Int)) (κr (true, (true, r_0, r_1, r_2, r_3), ([], [], 0, 0))) (κl (IntKind.i64.wrap (t23 + (1 : Int)), r_0, r_1, r_2, r_3))) (δ)) (δ)) (δ)) (κr (false, (false, [], [], 0, 0), (r_0, r_1, r_2, r_3)))
noncomputable def law55_ReportShape_l1_step (v : List AV) (i : Int) (t12 : Int) (t13 : Int) (t22 : Int) : (Int × List AV × List AV × Int × Int) → Option ((Int × List AV × List AV × Int × Int) ⊕ (Bool × (Bool × List AV × List AV × Int × Int) × (List AV × List AV × Int × Int))) := fun (t23, r_0, r_1, r_2, r_3) => law55_ReportShape_l1_t v i t12 t13 t22 t23 r_0 r_1 r_2 r_3 none (fun s => some (.inl s)) (fun p => some (.inr p))
noncomputable def law55_ReportShape_l1_L (v : List AV) (i : Int) (t12 : Int) (t13 : Int) (t22 : Int) : (Int × List AV × List AV × Int × Int) → List AV × List Box := fun (t23, r_0, r_1, r_2, r_3) => ([AV.list (9 : Nat) v, AV.own 0 0 0 0, AV.int IntKind.i64 i, AV.int IntKind.i64 t12, AV.int IntKind.i64 t13, AV.int IntKind.i64 t22, AV.int IntKind.i64 t23], [⟨0, (4 : Nat), (25 : Nat), [AV.agg [AV.list (3 : Nat) r_0, AV.list (3 : Nat) r_1, AV.int IntKind.i64 r_2, AV.int IntKind.i64 r_3]], false, true⟩])
noncomputable def law55_ReportShape_l1_out (v : List AV) (i : Int) (t12 : Int) (t13 : Int) (t22 : Int) : (Bool × (Bool × List AV × List AV × Int × Int) × (List AV × List AV × Int × Int)) → LR := fun p => (.node p.1 (.leaf (Exit.ret) [AV.list (9 : Nat) v, AV.own 0 0 0 0, AV.bool p.2.1.1, AV.int IntKind.i64 t12, AV.int IntKind.i64 t13] [⟨0, (4 : Nat), (25 : Nat), [AV.agg [AV.list (3 : Nat) p.2.1.2.1, AV.list (3 : Nat) p.2.1.2.2.1, AV.int IntKind.i64 p.2.1.2.2.2.1, AV.int IntKind.i64 p.2.1.2.2.2.2]], false, true⟩]) (.leaf (Exit.exit (2 : Nat)) [AV.list (9 : Nat) v, AV.own 0 0 0 0, AV.top, AV.int IntKind.i64 t12, AV.int IntKind.i64 t13] [⟨0, (4 : Nat), (25 : Nat), [AV.agg [AV.list (3 : Nat) p.2.2.1, AV.list (3 : Nat) p.2.2.2.1, AV.int IntKind.i64 p.2.2.2.2.1, AV.int IntKind.i64 p.2.2.2.2.2]], false, true⟩]))
noncomputable abbrev law55_ReportShape_l1_X (vals : List AV) (H : List Box) := XR Tryz.prog law55_ReportShape_E0 [1, 2, 5, 12, 13, 22, 23] [1, 2, 4, 12, 13] [] (loopAt Tryz.f7 1) vals H
theorem law55_ReportShape_l1_r (v : List AV) (i : Int) (t12 : Int) (t13 : Int) (t22 : Int) (s : Int × List AV × List AV × Int × Int) : Enc (encR (law55_ReportShape_l1_L v i t12 t13 t22) (law55_ReportShape_l1_out v i t12 t13 t22)) (law55_ReportShape_l1_step v i t12 t13 t22 s) (law55_ReportShape_l1_X (law55_ReportShape_l1_L v i t12 t13 t22 s).1 (law55_ReportShape_l1_L v i t12 t13 t22 s).2) := by
  obtain ⟨t23, r_0, r_1, r_2, r_3⟩ := s
  have h : law55_ReportShape_l1_X (law55_ReportShape_l1_L v i t12 t13 t22 (t23, r_0, r_1, r_2, r_3)).1 (law55_ReportShape_l1_L v i t12 t13 t22 (t23, r_0, r_1, r_2, r_3)).2 = law55_ReportShape_l1_t v i t12 t13 t22 t23 r_0 r_1 r_2 r_3 none (fun s => some (encR (law55_ReportShape_l1_L v i t12 t13 t22) (law55_ReportShape_l1_out v i t12 t13 t22) (.inl s))) (fun p => some (encR (law55_ReportShape_l1_L v i t12 t13 t22) (law55_ReportShape_l1_out v i t12 t13 t22) (.inr p))) := by kernel_rfl
  rw [h]; unfold law55_ReportShape_l1_step law55_ReportShape_l1_t; repeat' (first | exact Enc.none | exact Enc.some rfl | refine Enc.br ?_ ?_)
noncomputable def law55_ReportShape_l1_lp : Lp := lpOf [1, 2, 5, 12, 13, 22, 23] [1, 2, 4, 12, 13] [] (pCons (pList (9 : Nat) pAny) (pCons (pOwn (0 : Nat) (0 : Nat) (0 : Nat) (0 : Nat)) (pCons (pInt IntKind.i64) (pCons (pInt IntKind.i64) (pCons (pInt IntKind.i64) (pCons (pInt IntKind.i64) (pCons (pInt IntKind.i64) pNil))))))) (pCons (pBox (0 : Nat) (4 : Nat) (25 : Nat) false true (pCons (pAgg (pCons (pList (3 : Nat) pAny) (pCons (pList (3 : Nat) pAny) (pCons (pInt IntKind.i64) (pCons (pInt IntKind.i64) pNil))))) pNil)) pNil) fun (v, (_, (i, (t12, (t13, (t22, (t23, _))))))) (((r_0, (r_1, (r_2, (r_3, _)))), _), _) => ((Iter (law55_ReportShape_l1_step v i t12 t13 t22) (t23, r_0, r_1, r_2, r_3)).isSome, law55_ReportShape_l1_out v i t12 t13 t22 ((Iter (law55_ReportShape_l1_step v i t12 t13 t22) (t23, r_0, r_1, r_2, r_3)).getD (false, (false, [], [], 0, 0), ([], [], 0, 0))))
theorem law55_ReportShape_l1_lok : LoopOk Tryz.prog (ITryz.at law55_ReportShape_E0.pin) law55_ReportShape_E0.nt (loopAt Tryz.f7 1) law55_ReportShape_l1_lp := lok_of fun vv bb rr hh => by
  obtain ⟨v, ⟨_, ⟨i, ⟨t12, ⟨t13, ⟨t22, ⟨t23, _⟩⟩⟩⟩⟩⟩⟩ := vv
  obtain ⟨⟨⟨r_0, ⟨r_1, ⟨r_2, ⟨r_3, _⟩⟩⟩⟩, _⟩, _⟩ := bb
  obtain ⟨hh1, rfl⟩ := Prod.mk.inj hh
  exact loop_of_XR mxTryz (inv0Ok Tryz.prog _) rfl law55_ReportShape_E0_ok law55_ReportShape_E0_lk7_1 (law55_ReportShape_l1_L v i t12 t13 t22) (law55_ReportShape_l1_out v i t12 t13 t22) (fun p => by simp only [law55_ReportShape_l1_out, LR.eval]; first | (simp; done) | (repeat' split <;> simp)) (law55_ReportShape_l1_r v i t12 t13 t22) (s := (t23, r_0, r_1, r_2, r_3)) (getD_of_isSome hh1)


/-- The environment of bitemporal/bitemporallaw55.ReportShape: its loops so far. -/

noncomputable def law55_ReportShape_E1 : Env := EKL_3.fn 89 0 (lsOf []) (lpsOf [(5, law55_ReportShape_l1_lp)])

theorem law55_ReportShape_E1_ok : OrcOk Tryz.prog (ITryz.at 0) law55_ReportShape_E1 := EKL_3_ok.fn

theorem law55_ReportShape_E1_lk7_0 : LoOk Tryz.prog (ITryz.at law55_ReportShape_E1.pin) law55_ReportShape_E1 (loopAt Tryz.f7 0) := loOk_all (ls := [loopAt Tryz.f7 1]) (by kernel_rfl) (fun l hl lp hs => by
  simp only [List.mem_cons, List.not_mem_nil, or_false] at hl
  rcases hl with rfl
  · rw [show law55_ReportShape_E1.lp (codeId (loopAt Tryz.f7 1)) = some law55_ReportShape_l1_lp by kernel_rfl] at hs
    simp only [Option.some.injEq] at hs; subst hs; exact law55_ReportShape_l1_lok)

/- 11 nodes -/
noncomputable def law55_ReportShape_l0_v9 (v : List AV) (t12 : Int) (t13 : Int) (r_0 : List AV) (r_1 : List AV) (r_2 : Int) (r_3 : Int) : Option (Bool × (Bool × List AV × List AV × Int × Int) × List AV × List AV × Int × Int) := Iter (law55_ReportShape_l1_step v t13 t12 t13 (↑((r_0.getD t13.toNat AV.top).cells.getD (0 : Nat) AV.top).toStr.length : Int)) ((0 : Int), r_0, r_1, r_2, r_3)
noncomputable def law55_ReportShape_l0_v8 (v : List AV) (t12 : Int) (t13 : Int) (r_0 : List AV) (r_1 : List AV) (r_2 : Int) (r_3 : Int) : Bool × (Bool × List AV × List AV × Int × Int) × List AV × List AV × Int × Int := (law55_ReportShape_l0_v9 v t12 t13 r_0 r_1 r_2 r_3).getD (false, (false, [], [], (0 : Int), (0 : Int)), [], [], (0 : Int), (0 : Int))
noncomputable def law55_ReportShape_l0_v7 (v : List AV) (t12 : Int) (t13 : Int) (r_0 : List AV) (r_1 : List AV) (r_2 : Int) (r_3 : Int) : (Bool × List AV × List AV × Int × Int) × List AV × List AV × Int × Int := (law55_ReportShape_l0_v8 v t12 t13 r_0 r_1 r_2 r_3).snd
noncomputable def law55_ReportShape_l0_v5 (v : List AV) (t12 : Int) (t13 : Int) (r_0 : List AV) (r_1 : List AV) (r_2 : Int) (r_3 : Int) : List AV × List AV × Int × Int := (law55_ReportShape_l0_v7 v t12 t13 r_0 r_1 r_2 r_3).snd
noncomputable def law55_ReportShape_l0_v6 (v : List AV) (t12 : Int) (t13 : Int) (r_0 : List AV) (r_1 : List AV) (r_2 : Int) (r_3 : Int) : Bool × List AV × List AV × Int × Int := (law55_ReportShape_l0_v7 v t12 t13 r_0 r_1 r_2 r_3).fst
noncomputable def law55_ReportShape_l0_v3 (v : List AV) (t12 : Int) (t13 : Int) (r_0 : List AV) (r_1 : List AV) (r_2 : Int) (r_3 : Int) : List AV × List AV × Int × Int := (law55_ReportShape_l0_v6 v t12 t13 r_0 r_1 r_2 r_3).snd
noncomputable def law55_ReportShape_l0_v4 (v : List AV) (t12 : Int) (t13 : Int) (r_0 : List AV) (r_1 : List AV) (r_2 : Int) (r_3 : Int) : List AV × Int × Int := (law55_ReportShape_l0_v5 v t12 t13 r_0 r_1 r_2 r_3).snd
noncomputable def law55_ReportShape_l0_v1 (v : List AV) (t12 : Int) (t13 : Int) (r_0 : List AV) (r_1 : List AV) (r_2 : Int) (r_3 : Int) : List AV × Int × Int := (law55_ReportShape_l0_v3 v t12 t13 r_0 r_1 r_2 r_3).snd
noncomputable def law55_ReportShape_l0_v2 (v : List AV) (t12 : Int) (t13 : Int) (r_0 : List AV) (r_1 : List AV) (r_2 : Int) (r_3 : Int) : Int × Int := (law55_ReportShape_l0_v4 v t12 t13 r_0 r_1 r_2 r_3).snd
noncomputable def law55_ReportShape_l0_v0 (v : List AV) (t12 : Int) (t13 : Int) (r_0 : List AV) (r_1 : List AV) (r_2 : Int) (r_3 : Int) : Int × Int := (law55_ReportShape_l0_v1 v t12 t13 r_0 r_1 r_2 r_3).snd
noncomputable def law55_ReportShape_l0_t {T : Type} (v : List AV) (t12 : Int) (t13 : Int) (r_0 : List AV) (r_1 : List AV) (r_2 : Int) (r_3 : Int) (δ : T) (κl : (Int × List AV × List AV × Int × Int) → T) (κr : (Bool × (Bool × List AV × List AV × Int × Int) × (List AV × List AV × Int × Int)) → T) : T := br (decide (t13 < t12)) (br (decide ((0 : Int) ≤ t13) && decide (t13 < (↑r_0.length : Int))) (br (decide (t13.toNat < r_0.length) && hasSh1 Sh.str ((r_0.getD t13.toNat AV.top).cells.getD (0 : Nat) AV.top)) (br ((law55_ReportShape_l0_v9 v t12 t13 r_0 r_1 r_2 r_3).isSome) (br ((law55_ReportShape_l0_v8 v t12 t13 r_0 r_1 r_2 r_3).fst) (κr (true, ((law55_ReportShape_l0_v6 v t12 t13 r_0 r_1 r_2 r_3).fst, (law55_ReportShape_l0_v3 v t12 t13 r_0 r_1 r_2 r_3).fst, (law55_ReportShape_l0_v1 v t12 t13 r_0 r_1 r_2 r_3).fst, (law55_ReportShape_l0_v0 v t12 t13 r_0 r_1 r_2 r_3).fst, (law55_ReportShape_l0_v0 v t12 t13 r_0 r_1 r_2 r_3).snd), ([], [], 0, 0))) (κl (IntKind.i64.wrap (t13 + (1 : Int)), (law55_ReportShape_l0_v5 v t12 t13 r_0 r_1 r_2 r_3).fst, (law55_ReportShape_l0_v4 v t12 t13 r_0 r_1 r_2 r_3).fst, (law55_ReportShape_l0_v2 v t12 t13 r_0 r_1 r_2 r_3).fst, (law55_ReportShape_l0_v2 v t12 t13 r_0 r_1 r_2 r_3).snd))) (δ)) (δ)) (δ)) (κr (false, (false, [], [], 0, 0), (r_0, r_1, r_2, r_3)))
noncomputable def law55_ReportShape_l0_step (v : List AV) (t12 : Int) : (Int × List AV × List AV × Int × Int) → Option ((Int × List AV × List AV × Int × Int) ⊕ (Bool × (Bool × List AV × List AV × Int × Int) × (List AV × List AV × Int × Int))) := fun (t13, r_0, r_1, r_2, r_3) => law55_ReportShape_l0_t v t12 t13 r_0 r_1 r_2 r_3 none (fun s => some (.inl s)) (fun p => some (.inr p))
noncomputable def law55_ReportShape_l0_L (v : List AV) (t12 : Int) : (Int × List AV × List AV × Int × Int) → List AV × List Box := fun (t13, r_0, r_1, r_2, r_3) => ([AV.list (9 : Nat) v, AV.own 0 0 0 0, AV.int IntKind.i64 t12, AV.int IntKind.i64 t13], [⟨0, (4 : Nat), (25 : Nat), [AV.agg [AV.list (3 : Nat) r_0, AV.list (3 : Nat) r_1, AV.int IntKind.i64 r_2, AV.int IntKind.i64 r_3]], false, true⟩])
noncomputable def law55_ReportShape_l0_out (v : List AV) (t12 : Int) : (Bool × (Bool × List AV × List AV × Int × Int) × (List AV × List AV × Int × Int)) → LR := fun p => (.node p.1 (.leaf (Exit.ret) [AV.list (9 : Nat) v, AV.own 0 0 0 0, AV.bool p.2.1.1] [⟨0, (4 : Nat), (25 : Nat), [AV.agg [AV.list (3 : Nat) p.2.1.2.1, AV.list (3 : Nat) p.2.1.2.2.1, AV.int IntKind.i64 p.2.1.2.2.2.1, AV.int IntKind.i64 p.2.1.2.2.2.2]], false, true⟩]) (.leaf (Exit.exit (0 : Nat)) [AV.list (9 : Nat) v, AV.own 0 0 0 0, AV.top] [⟨0, (4 : Nat), (25 : Nat), [AV.agg [AV.list (3 : Nat) p.2.2.1, AV.list (3 : Nat) p.2.2.2.1, AV.int IntKind.i64 p.2.2.2.2.1, AV.int IntKind.i64 p.2.2.2.2.2]], false, true⟩]))
noncomputable abbrev law55_ReportShape_l0_X (vals : List AV) (H : List Box) := XR Tryz.prog law55_ReportShape_E1 [1, 2, 12, 13] [1, 2, 4] [] (loopAt Tryz.f7 0) vals H
theorem law55_ReportShape_l0_r (v : List AV) (t12 : Int) (s : Int × List AV × List AV × Int × Int) : Enc (encR (law55_ReportShape_l0_L v t12) (law55_ReportShape_l0_out v t12)) (law55_ReportShape_l0_step v t12 s) (law55_ReportShape_l0_X (law55_ReportShape_l0_L v t12 s).1 (law55_ReportShape_l0_L v t12 s).2) := by
  obtain ⟨t13, r_0, r_1, r_2, r_3⟩ := s
  have h : law55_ReportShape_l0_X (law55_ReportShape_l0_L v t12 (t13, r_0, r_1, r_2, r_3)).1 (law55_ReportShape_l0_L v t12 (t13, r_0, r_1, r_2, r_3)).2 = law55_ReportShape_l0_t v t12 t13 r_0 r_1 r_2 r_3 none (fun s => some (encR (law55_ReportShape_l0_L v t12) (law55_ReportShape_l0_out v t12) (.inl s))) (fun p => some (encR (law55_ReportShape_l0_L v t12) (law55_ReportShape_l0_out v t12) (.inr p))) := by kernel_rfl
  rw [h]; unfold law55_ReportShape_l0_step law55_ReportShape_l0_t; repeat' (first | exact Enc.none | exact Enc.some rfl | refine Enc.br ?_ ?_)
noncomputable def law55_ReportShape_l0_lp : Lp := lpOf [1, 2, 12, 13] [1, 2, 4] [] (pCons (pList (9 : Nat) pAny) (pCons (pOwn (0 : Nat) (0 : Nat) (0 : Nat) (0 : Nat)) (pCons (pInt IntKind.i64) (pCons (pInt IntKind.i64) pNil)))) (pCons (pBox (0 : Nat) (4 : Nat) (25 : Nat) false true (pCons (pAgg (pCons (pList (3 : Nat) pAny) (pCons (pList (3 : Nat) pAny) (pCons (pInt IntKind.i64) (pCons (pInt IntKind.i64) pNil))))) pNil)) pNil) fun (v, (_, (t12, (t13, _)))) (((r_0, (r_1, (r_2, (r_3, _)))), _), _) => ((Iter (law55_ReportShape_l0_step v t12) (t13, r_0, r_1, r_2, r_3)).isSome, law55_ReportShape_l0_out v t12 ((Iter (law55_ReportShape_l0_step v t12) (t13, r_0, r_1, r_2, r_3)).getD (false, (false, [], [], 0, 0), ([], [], 0, 0))))
theorem law55_ReportShape_l0_lok : LoopOk Tryz.prog (ITryz.at law55_ReportShape_E1.pin) law55_ReportShape_E1.nt (loopAt Tryz.f7 0) law55_ReportShape_l0_lp := lok_of fun vv bb rr hh => by
  obtain ⟨v, ⟨_, ⟨t12, ⟨t13, _⟩⟩⟩⟩ := vv
  obtain ⟨⟨⟨r_0, ⟨r_1, ⟨r_2, ⟨r_3, _⟩⟩⟩⟩, _⟩, _⟩ := bb
  obtain ⟨hh1, rfl⟩ := Prod.mk.inj hh
  exact loop_of_XR mxTryz (inv0Ok Tryz.prog _) rfl law55_ReportShape_E1_ok law55_ReportShape_E1_lk7_0 (law55_ReportShape_l0_L v t12) (law55_ReportShape_l0_out v t12) (fun p => by simp only [law55_ReportShape_l0_out, LR.eval]; first | (simp; done) | (repeat' split <;> simp)) (law55_ReportShape_l0_r v t12) (s := (t13, r_0, r_1, r_2, r_3)) (getD_of_isSome hh1)


/-- The environment of bitemporal/bitemporallaw55.ReportShape: its loops so far. -/

noncomputable def law55_ReportShape_E2 : Env := EKL_3.fn 89 0 (lsOf []) (lpsOf [(5, law55_ReportShape_l1_lp), (2, law55_ReportShape_l0_lp)])

theorem law55_ReportShape_E2_ok : OrcOk Tryz.prog (ITryz.at 0) law55_ReportShape_E2 := EKL_3_ok.fn

theorem law55_ReportShape_E2_lk7 : LoOk Tryz.prog (ITryz.at law55_ReportShape_E2.pin) law55_ReportShape_E2 (Tryz.f7.body.getD .skip) := loOk_all (ls := [loopAt Tryz.f7 0, loopAt Tryz.f7 1]) (by kernel_rfl) (fun l hl lp hs => by
  simp only [List.mem_cons, List.not_mem_nil, or_false] at hl
  rcases hl with rfl | rfl
  · rw [show law55_ReportShape_E2.lp (codeId (loopAt Tryz.f7 0)) = some law55_ReportShape_l0_lp by kernel_rfl] at hs
    simp only [Option.some.injEq] at hs; subst hs; exact law55_ReportShape_l0_lok
  · rw [show law55_ReportShape_E2.lp (codeId (loopAt Tryz.f7 1)) = some law55_ReportShape_l1_lp by kernel_rfl] at hs
    simp only [Option.some.injEq] at hs; subst hs; exact law55_ReportShape_l1_lok)

/- 55 nodes -/
noncomputable def law55_ReportShape_v11 (r_c : List AV) (r_fs : List AV) (r_n : Int) (r_tm : Int) (v : List AV) : Option (Bool × (Bool × List AV × List AV × Int × Int) × List AV × List AV × Int × Int) := Iter (law55_ReportShape_l0_step v (↑r_c.length : Int)) ((0 : Int), r_c, r_fs, r_n, r_tm)
noncomputable def law55_ReportShape_v10 (r_c : List AV) (r_fs : List AV) (r_n : Int) (r_tm : Int) (v : List AV) : Bool × (Bool × List AV × List AV × Int × Int) × List AV × List AV × Int × Int := (law55_ReportShape_v11 r_c r_fs r_n r_tm v).getD (false, (false, [], [], (0 : Int), (0 : Int)), [], [], (0 : Int), (0 : Int))
noncomputable def law55_ReportShape_v9 (r_c : List AV) (r_fs : List AV) (r_n : Int) (r_tm : Int) (v : List AV) : (Bool × List AV × List AV × Int × Int) × List AV × List AV × Int × Int := (law55_ReportShape_v10 r_c r_fs r_n r_tm v).snd
noncomputable def law55_ReportShape_v8 (r_c : List AV) (r_fs : List AV) (r_n : Int) (r_tm : Int) (v : List AV) : List AV × List AV × Int × Int := (law55_ReportShape_v9 r_c r_fs r_n r_tm v).snd
noncomputable def law55_ReportShape_v4 (r_c : List AV) (r_fs : List AV) (r_n : Int) (r_tm : Int) (v : List AV) : List AV := (law55_ReportShape_v8 r_c r_fs r_n r_tm v).fst
noncomputable def law55_ReportShape_v7 (r_c : List AV) (r_fs : List AV) (r_n : Int) (r_tm : Int) (v : List AV) : List AV × Int × Int := (law55_ReportShape_v8 r_c r_fs r_n r_tm v).snd
noncomputable def law55_ReportShape_v5 (r_c : List AV) (r_fs : List AV) (r_n : Int) (r_tm : Int) (v : List AV) : List AV := (law55_ReportShape_v7 r_c r_fs r_n r_tm v).fst
noncomputable def law55_ReportShape_v6 (r_c : List AV) (r_fs : List AV) (r_n : Int) (r_tm : Int) (v : List AV) : Int × Int := (law55_ReportShape_v7 r_c r_fs r_n r_tm v).snd
noncomputable def law55_ReportShape_v3 (r_c : List AV) (r_fs : List AV) (r_n : Int) (r_tm : Int) (v : List AV) : Option (List UInt8) := report_Result (law55_ReportShape_v4 r_c r_fs r_n r_tm v) (law55_ReportShape_v5 r_c r_fs r_n r_tm v) (law55_ReportShape_v6 r_c r_fs r_n r_tm v).fst (law55_ReportShape_v6 r_c r_fs r_n r_tm v).snd
noncomputable def law55_ReportShape_v2 (r_c : List AV) (r_fs : List AV) (r_n : Int) (r_tm : Int) (v : List AV) : Option (Int × Bool) := law55_lines ((law55_ReportShape_v3 r_c r_fs r_n r_tm v).getD [])
noncomputable def law55_ReportShape_v1 (r_c : List AV) (r_fs : List AV) (r_n : Int) (r_tm : Int) (v : List AV) : Int × Bool := (law55_ReportShape_v2 r_c r_fs r_n r_tm v).getD ((0 : Int), false)
noncomputable def law55_ReportShape_v0 (r_c : List AV) (r_fs : List AV) (r_n : Int) (r_tm : Int) (v : List AV) : Int := (law55_ReportShape_v1 r_c r_fs r_n r_tm v).fst
noncomputable def law55_ReportShape_t {T : Type} (r_c : List AV) (r_fs : List AV) (r_n : Int) (r_tm : Int) (v : List AV) (δ : T) (κ : Bool → T) : T := br ((law55_ReportShape_v11 r_c r_fs r_n r_tm v).isSome) (br ((law55_ReportShape_v10 r_c r_fs r_n r_tm v).fst) (κ ((law55_ReportShape_v9 r_c r_fs r_n r_tm v).fst.fst)) (br ((law55_ReportShape_v3 r_c r_fs r_n r_tm v).isSome) (br ((law55_ReportShape_v2 r_c r_fs r_n r_tm v).isSome) (br (!(law55_ReportShape_v1 r_c r_fs r_n r_tm v).snd) (κ (false)) (br ((↑(law55_ReportShape_v4 r_c r_fs r_n r_tm v).length : Int) == (0 : Int)) (br (law55_ReportShape_v0 r_c r_fs r_n r_tm v != (1 : Int)) (κ (false)) (br (decide ((↑(law55_ReportShape_v4 r_c r_fs r_n r_tm v).length : Int) > (0 : Int))) (br (law55_ReportShape_v0 r_c r_fs r_n r_tm v != IntKind.i64.wrap ((↑(law55_ReportShape_v5 r_c r_fs r_n r_tm v).length : Int) + (3 : Int))) (κ (false)) (br ((report_Versions (law55_ReportShape_v4 r_c r_fs r_n r_tm v) v).isSome) (br ((law55_lines ((report_Versions (law55_ReportShape_v4 r_c r_fs r_n r_tm v) v).getD [])).isSome) (br (((law55_lines ((report_Versions (law55_ReportShape_v4 r_c r_fs r_n r_tm v) v).getD [])).getD ((0 : Int), false)).snd) (br (((law55_lines ((report_Versions (law55_ReportShape_v4 r_c r_fs r_n r_tm v) v).getD [])).getD ((0 : Int), false)).fst == IntKind.i64.wrap ((↑v.length : Int) + (2 : Int))) (κ (true)) (κ (false))) (κ (false))) (δ)) (δ))) (br ((report_Versions (law55_ReportShape_v4 r_c r_fs r_n r_tm v) v).isSome) (br ((law55_lines ((report_Versions (law55_ReportShape_v4 r_c r_fs r_n r_tm v) v).getD [])).isSome) (br (((law55_lines ((report_Versions (law55_ReportShape_v4 r_c r_fs r_n r_tm v) v).getD [])).getD ((0 : Int), false)).snd) (br (((law55_lines ((report_Versions (law55_ReportShape_v4 r_c r_fs r_n r_tm v) v).getD [])).getD ((0 : Int), false)).fst == IntKind.i64.wrap ((↑v.length : Int) + (2 : Int))) (κ (true)) (κ (false))) (κ (false))) (δ)) (δ)))) (br (decide ((↑(law55_ReportShape_v4 r_c r_fs r_n r_tm v).length : Int) > (0 : Int))) (br (law55_ReportShape_v0 r_c r_fs r_n r_tm v != IntKind.i64.wrap ((↑(law55_ReportShape_v5 r_c r_fs r_n r_tm v).length : Int) + (3 : Int))) (κ (false)) (br ((report_Versions (law55_ReportShape_v4 r_c r_fs r_n r_tm v) v).isSome) (br ((law55_lines ((report_Versions (law55_ReportShape_v4 r_c r_fs r_n r_tm v) v).getD [])).isSome) (br (((law55_lines ((report_Versions (law55_ReportShape_v4 r_c r_fs r_n r_tm v) v).getD [])).getD ((0 : Int), false)).snd) (br (((law55_lines ((report_Versions (law55_ReportShape_v4 r_c r_fs r_n r_tm v) v).getD [])).getD ((0 : Int), false)).fst == IntKind.i64.wrap ((↑v.length : Int) + (2 : Int))) (κ (true)) (κ (false))) (κ (false))) (δ)) (δ))) (br ((report_Versions (law55_ReportShape_v4 r_c r_fs r_n r_tm v) v).isSome) (br ((law55_lines ((report_Versions (law55_ReportShape_v4 r_c r_fs r_n r_tm v) v).getD [])).isSome) (br (((law55_lines ((report_Versions (law55_ReportShape_v4 r_c r_fs r_n r_tm v) v).getD [])).getD ((0 : Int), false)).snd) (br (((law55_lines ((report_Versions (law55_ReportShape_v4 r_c r_fs r_n r_tm v) v).getD [])).getD ((0 : Int), false)).fst == IntKind.i64.wrap ((↑v.length : Int) + (2 : Int))) (κ (true)) (κ (false))) (κ (false))) (δ)) (δ))))) (δ)) (δ))) (δ)
noncomputable def law55_ReportShape (r_c : List AV) (r_fs : List AV) (r_n : Int) (r_tm : Int) (v : List AV) : Option (Bool) := law55_ReportShape_t r_c r_fs r_n r_tm v none some
theorem law55_ReportShape_x (r_c : List AV) (r_fs : List AV) (r_n : Int) (r_tm : Int) (v : List AV) : Enc (fun (p : Bool) => ((AV.bool p) : AV)) (law55_ReportShape r_c r_fs r_n r_tm v) (XF Tryz.prog law55_ReportShape_E2 Tryz.f7 (Tryz.f7.body.getD .skip) [AV.agg [AV.list (3 : Nat) r_c, AV.list (3 : Nat) r_fs, AV.int IntKind.i64 r_n, AV.int IntKind.i64 r_tm], AV.list (9 : Nat) v]) := by
  have h : XF Tryz.prog law55_ReportShape_E2 Tryz.f7 (Tryz.f7.body.getD .skip) [AV.agg [AV.list (3 : Nat) r_c, AV.list (3 : Nat) r_fs, AV.int IntKind.i64 r_n, AV.int IntKind.i64 r_tm], AV.list (9 : Nat) v] = law55_ReportShape_t r_c r_fs r_n r_tm v none (fun (p : Bool) => some ((AV.bool p) : AV)) := by kernel_rfl
  rw [h]; unfold law55_ReportShape law55_ReportShape_t; repeat' (first | exact Enc.none | exact Enc.some rfl | refine Enc.br ?_ ?_)
noncomputable def law55_ReportShape_o : List AV → Option (Bool × AV) := ocOf (sCons (sAgg (sCons (sList (3 : Nat) pAny) (sCons (sList (3 : Nat) pAny) (sCons (sEq (pInt IntKind.i64)) (sCons (sEq (pInt IntKind.i64)) sNil))))) (sCons (sList (9 : Nat) pAny) sNil)) fun ((r_c, (r_fs, (r_n, (r_tm, _)))), (v, _)) => ((law55_ReportShape r_c r_fs r_n r_tm v).isSome, (AV.bool ((law55_ReportShape r_c r_fs r_n r_tm v).getD false)))
theorem law55_ReportShape_c : OcOk Tryz.prog ITryz 7 (law55_ReportShape_o) := ocOk_of fun vv rr hh => by
  obtain ⟨⟨r_c, ⟨r_fs, ⟨r_n, ⟨r_tm, _⟩⟩⟩⟩, ⟨v, _⟩⟩ := vv
  obtain ⟨hh1, hh2⟩ := Prod.mk.inj hh
  refine good_pin (p := law55_ReportShape_E2.pin) (good_XF mxTryz (inv0Ok Tryz.prog _) rfl law55_ReportShape_E2_ok Tryz.func7 rfl (by kernel_rfl) law55_ReportShape_E2_lk7 ((law55_ReportShape_x _ _ _ _ _ _ (getD_of_isSome (d := false) hh1)).trans ?_))
  exact congrArg some hh2


noncomputable def EKL_4 : Env := EKL_3.with 7 law55_ReportShape_o

theorem EKL_4_ok : OrcOk Tryz.prog ITryz EKL_4 := EKL_3_ok.with law55_ReportShape_c

noncomputable abbrev EKL : Env := EKL_4

theorem EKL_ok : OrcOk Tryz.prog ITryz EKL := EKL_4_ok

end Go.Sim.M
