/- Functions of the program as the executor found them: printed by program, checked by the kernel. -/
import Derived.Test.YtpnibjljhfgjaaaGreatDoorKB
set_option linter.unusedVariables false
set_option linter.unusedSimpArgs false
set_option maxRecDepth 100000
namespace Go.Sim.M
open Go.RowKit Go.Proofs

/-- The environment of bitemporal/report.names: its loops so far. -/

noncomputable def report_names_M_E0 : Env := EKB.fn 19 0 (lsOf []) (lpsOf [])

theorem report_names_M_E0_ok : OrcOk Tryz.prog (ITryz.at 0) report_names_M_E0 := EKB_ok.fn

theorem report_names_M_E0_lk27_0 : LoOk Tryz.prog (ITryz.at report_names_M_E0.pin) report_names_M_E0 (loopAt Tryz.f27 0) := loOk_nil (by kernel_rfl)

/- 9 nodes -/
noncomputable def report_names_M_l0_t {T : Type} (t6 : List AV) (t7 : Int) (out_n : Nat) (t8 : Int) (out_xs : List AV) (δ : T) (κl : (Nat × Int × List AV) → T) (κr : (Nat × List AV) → T) : T := br (decide (t8 < t7)) (br (decide ((0 : Int) ≤ t8) && decide (t8 < (↑t6.length : Int))) (br (decide (t8.toNat < t6.length) && ((t6.getD t8.toNat AV.top).cells.length == (3 : Nat) && hasShs [Sh.str, Sh.int IntKind.i64, Sh.bool] (t6.getD t8.toNat AV.top).cells (0 : Nat))) (br (out_n == out_xs.length && (decide ((out_n + (1 : Nat)) * (16 : Nat) ≤ (140737488355328 : Nat)) && decide (out_n + (1 : Nat) ≤ (4611686018427387904 : Nat)))) (κl (out_n + (1 : Nat), IntKind.i64.wrap (t8 + (1 : Int)), out_xs ++ [AV.str ((t6.getD t8.toNat AV.top).cells.getD (0 : Nat) AV.top).toStr])) (δ)) (δ)) (δ)) (κr (out_n, out_xs))
noncomputable def report_names_M_l0_step (t6 : List AV) (t7 : Int) : (Nat × Int × List AV) → Option ((Nat × Int × List AV) ⊕ (Nat × List AV)) := fun (out_n, t8, out_xs) => report_names_M_l0_t t6 t7 out_n t8 out_xs none (fun s => some (.inl s)) (fun p => some (.inr p))
noncomputable def report_names_M_l0_L (t6 : List AV) (t7 : Int) : (Nat × Int × List AV) → List AV × List Box := fun (out_n, t8, out_xs) => ([AV.osl 0 0 0 out_n, AV.list (3 : Nat) t6, AV.int IntKind.i64 t7, AV.int IntKind.i64 t8], [⟨0, (1 : Nat), (9 : Nat), out_xs, false, true⟩])
noncomputable def report_names_M_l0_out (t6 : List AV) (t7 : Int) : (Nat × List AV) → LR := fun p => (.leaf (Exit.exit (0 : Nat)) [AV.osl 0 0 0 p.1] [⟨0, (1 : Nat), (9 : Nat), p.2, false, true⟩])
noncomputable abbrev report_names_M_l0_X (vals : List AV) (H : List Box) := XR Tryz.prog report_names_M_E0 [3, 6, 7, 8] [3] [(3, 1, 9)] (loopAt Tryz.f27 0) vals H
theorem report_names_M_l0_r (t6 : List AV) (t7 : Int) (s : Nat × Int × List AV) : Enc (encR (report_names_M_l0_L t6 t7) (report_names_M_l0_out t6 t7)) (report_names_M_l0_step t6 t7 s) (report_names_M_l0_X (report_names_M_l0_L t6 t7 s).1 (report_names_M_l0_L t6 t7 s).2) := by
  obtain ⟨out_n, t8, out_xs⟩ := s
  have h : report_names_M_l0_X (report_names_M_l0_L t6 t7 (out_n, t8, out_xs)).1 (report_names_M_l0_L t6 t7 (out_n, t8, out_xs)).2 = report_names_M_l0_t t6 t7 out_n t8 out_xs none (fun s => some (encR (report_names_M_l0_L t6 t7) (report_names_M_l0_out t6 t7) (.inl s))) (fun p => some (encR (report_names_M_l0_L t6 t7) (report_names_M_l0_out t6 t7) (.inr p))) := by kernel_rfl
  rw [h]; unfold report_names_M_l0_step report_names_M_l0_t; repeat' (first | exact Enc.none | exact Enc.some rfl | refine Enc.br ?_ ?_)
noncomputable def report_names_M_l0_lp : Lp := lpOf [3, 6, 7, 8] [3] [(3, 1, 9)] (pCons (pOsl (0 : Nat) (0 : Nat) (0 : Nat)) (pCons (pList (3 : Nat) pAny) (pCons (pInt IntKind.i64) (pCons (pInt IntKind.i64) pNil)))) (pCons (pBox (0 : Nat) (1 : Nat) (9 : Nat) false true pAny) pNil) fun (out_n, (t6, (t7, (t8, _)))) (out_xs, _) => ((Iter (report_names_M_l0_step t6 t7) (out_n, t8, out_xs)).isSome, report_names_M_l0_out t6 t7 ((Iter (report_names_M_l0_step t6 t7) (out_n, t8, out_xs)).getD (0, [])))
theorem report_names_M_l0_lok : LoopOk Tryz.prog (ITryz.at report_names_M_E0.pin) report_names_M_E0.nt (loopAt Tryz.f27 0) report_names_M_l0_lp := lok_of fun vv bb rr hh => by
  obtain ⟨out_n, ⟨t6, ⟨t7, ⟨t8, _⟩⟩⟩⟩ := vv
  obtain ⟨out_xs, _⟩ := bb
  obtain ⟨hh1, rfl⟩ := Prod.mk.inj hh
  exact loop_of_XR mxTryz (inv0Ok Tryz.prog _) rfl report_names_M_E0_ok report_names_M_E0_lk27_0 (report_names_M_l0_L t6 t7) (report_names_M_l0_out t6 t7) (fun p => by simp only [report_names_M_l0_out, LR.eval]; first | (simp; done) | (repeat' split <;> simp)) (report_names_M_l0_r t6 t7) (s := (out_n, t8, out_xs)) (getD_of_isSome hh1)


/-- The environment of bitemporal/report.names: its loops so far. -/

noncomputable def report_names_M_E1 : Env := EKB.fn 19 0 (lsOf []) (lpsOf [(3, report_names_M_l0_lp)])

theorem report_names_M_E1_ok : OrcOk Tryz.prog (ITryz.at 0) report_names_M_E1 := EKB_ok.fn

theorem report_names_M_E1_lk27 : LoOk Tryz.prog (ITryz.at report_names_M_E1.pin) report_names_M_E1 (Tryz.f27.body.getD .skip) := loOk_all (ls := [loopAt Tryz.f27 0]) (by kernel_rfl) (fun l hl lp hs => by
  simp only [List.mem_cons, List.not_mem_nil, or_false] at hl
  rcases hl with rfl
  · rw [show report_names_M_E1.lp (codeId (loopAt Tryz.f27 0)) = some report_names_M_l0_lp by kernel_rfl] at hs
    simp only [Option.some.injEq] at hs; subst hs; exact report_names_M_l0_lok)

/- 3 nodes -/
noncomputable def report_names_M_v0 (l : List AV) : Nat × List AV := (Iter (report_names_M_l0_step l (↑l.length : Int)) ((0 : Nat), (0 : Int), [])).getD ((0 : Nat), [])
noncomputable def report_names_M_t {T : Type} (l : List AV) (δ : T) (κ : Nat × List AV → T) : T := br ((Iter (report_names_M_l0_step l (↑l.length : Int)) ((0 : Nat), (0 : Int), [])).isSome) (κ ((report_names_M_v0 l).fst, (report_names_M_v0 l).snd)) (δ)
noncomputable def report_names_M (l : List AV) : Option (Nat × List AV) := report_names_M_t l none some
theorem report_names_M_x (l : List AV) : Enc (fun (p : Nat × List AV) => (((AV.osl 0 0 0 p.1, ([⟨0, (1 : Nat), (9 : Nat), p.2, false, true⟩] : List Box))) : (AV × List Box))) (report_names_M l) (XFM Tryz.prog report_names_M_E1 Tryz.f27 (Tryz.f27.body.getD .skip) [AV.list (3 : Nat) l] []) := by
  have h : XFM Tryz.prog report_names_M_E1 Tryz.f27 (Tryz.f27.body.getD .skip) [AV.list (3 : Nat) l] [] = report_names_M_t l none (fun (p : Nat × List AV) => some (((AV.osl 0 0 0 p.1, ([⟨0, (1 : Nat), (9 : Nat), p.2, false, true⟩] : List Box))) : (AV × List Box))) := by kernel_rfl
  rw [h]; unfold report_names_M report_names_M_t; repeat' (first | exact Enc.none | exact Enc.some rfl | refine Enc.br ?_ ?_)
noncomputable def report_names_M_o : List AV → List Box → Option (Bool × AV × List Box) := omOf (sCons (sList (3 : Nat) pAny) sNil) pNil fun (l, _) _ => ((report_names_M l).isSome, ((AV.osl 0 0 0 ((report_names_M l).getD (0, [])).1, ([⟨0, (1 : Nat), (9 : Nat), ((report_names_M l).getD (0, [])).2, false, true⟩] : List Box))))
theorem report_names_M_c : OmOk Tryz.prog ITryz 27 (report_names_M_o) := omOk_of fun vv bb rr hh' hh => by
  obtain ⟨l, _⟩ := vv
  obtain ⟨hh1, hh2⟩ := Prod.mk.inj hh
  refine goodM_pin (p := report_names_M_E1.pin) (goodM_XFM mxTryz (inv0Ok Tryz.prog _) rfl report_names_M_E1_ok rfl Tryz.func27 rfl (by kernel_rfl) report_names_M_E1_lk27 ((report_names_M_x _ _ (getD_of_isSome (d := (0, [])) hh1)).trans ?_))
  exact congrArg some hh2


noncomputable def EK4_1 : Env := EKB.withM 27 report_names_M_o

theorem EK4_1_ok : OrcOk Tryz.prog ITryz EK4_1 := EKB_ok.withM report_names_M_c

/-- The environment of bitemporal/report.values: its loops so far. -/

noncomputable def report_values_M_E0 : Env := EK4_1.fn 28 0 (lsOf []) (lpsOf [])

theorem report_values_M_E0_ok : OrcOk Tryz.prog (ITryz.at 0) report_values_M_E0 := EK4_1_ok.fn

theorem report_values_M_E0_lk28_0 : LoOk Tryz.prog (ITryz.at report_values_M_E0.pin) report_values_M_E0 (loopAt Tryz.f28 0) := loOk_nil (by kernel_rfl)

/- 15 nodes -/
noncomputable def report_values_M_l0_v0 (row : List AV) (t11 : Int) : Option (List UInt8) := value_Literal ((row.getD t11.toNat AV.top).cells.getD (0 : Nat) AV.top).toInt ((row.getD t11.toNat AV.top).cells.getD (1 : Nat) AV.top).toInt ((row.getD t11.toNat AV.top).cells.getD (2 : Nat) AV.top).toStr
noncomputable def report_values_M_l0_t {T : Type} (row : List AV) (out : Nat) (t10 : Int) (t11 : Int) (out_xs : List AV) (δ : T) (κl : (Int × List AV) → T) (κr : (List AV) → T) : T := br (decide (t11 < t10)) (br (decide (t11 < (↑row.length : Int))) (br (decide ((0 : Int) ≤ t11) && decide (t11 < (↑row.length : Int))) (br (decide (t11.toNat < row.length) && ((row.getD t11.toNat AV.top).cells.length == (3 : Nat) && hasShs [Sh.int IntKind.i64, Sh.int IntKind.i64, Sh.str] (row.getD t11.toNat AV.top).cells (0 : Nat))) (br ((report_values_M_l0_v0 row t11).isSome) (br (decide ((0 : Int) ≤ t11) && decide (t11 < (↑out : Int))) (br (decide ((0 : Nat) + t11.toNat < out_xs.length)) (κl (IntKind.i64.wrap (t11 + (1 : Int)), out_xs.set ((0 : Nat) + t11.toNat) (AV.str ((report_values_M_l0_v0 row t11).getD [])))) (δ)) (δ)) (δ)) (δ)) (δ)) (κl (IntKind.i64.wrap (t11 + (1 : Int)), out_xs))) (κr (out_xs))
noncomputable def report_values_M_l0_step (row : List AV) (out : Nat) (t10 : Int) : (Int × List AV) → Option ((Int × List AV) ⊕ (List AV)) := fun (t11, out_xs) => report_values_M_l0_t row out t10 t11 out_xs none (fun s => some (.inl s)) (fun p => some (.inr p))
noncomputable def report_values_M_l0_L (row : List AV) (out : Nat) (t10 : Int) : (Int × List AV) → List AV × List Box := fun (t11, out_xs) => ([AV.list (3 : Nat) row, AV.osl 0 0 0 out, AV.int IntKind.i64 t10, AV.int IntKind.i64 t11], [⟨0, (1 : Nat), (9 : Nat), out_xs, false, true⟩])
noncomputable def report_values_M_l0_out (row : List AV) (out : Nat) (t10 : Int) : (List AV) → LR := fun p => (.leaf (Exit.exit (0 : Nat)) [AV.osl 0 0 0 out] [⟨0, (1 : Nat), (9 : Nat), p, false, true⟩])
noncomputable abbrev report_values_M_l0_X (vals : List AV) (H : List Box) := XR Tryz.prog report_values_M_E0 [0, 5, 10, 11] [5] [] (loopAt Tryz.f28 0) vals H
theorem report_values_M_l0_r (row : List AV) (out : Nat) (t10 : Int) (s : Int × List AV) : Enc (encR (report_values_M_l0_L row out t10) (report_values_M_l0_out row out t10)) (report_values_M_l0_step row out t10 s) (report_values_M_l0_X (report_values_M_l0_L row out t10 s).1 (report_values_M_l0_L row out t10 s).2) := by
  obtain ⟨t11, out_xs⟩ := s
  have h : report_values_M_l0_X (report_values_M_l0_L row out t10 (t11, out_xs)).1 (report_values_M_l0_L row out t10 (t11, out_xs)).2 = report_values_M_l0_t row out t10 t11 out_xs none (fun s => some (encR (report_values_M_l0_L row out t10) (report_values_M_l0_out row out t10) (.inl s))) (fun p => some (encR (report_values_M_l0_L row out t10) (report_values_M_l0_out row out t10) (.inr p))) := by kernel_rfl
  rw [h]; unfold report_values_M_l0_step report_values_M_l0_t; repeat' (first | exact Enc.none | exact Enc.some rfl | refine Enc.br ?_ ?_)
noncomputable def report_values_M_l0_lp : Lp := lpOf [0, 5, 10, 11] [5] [] (pCons (pList (3 : Nat) pAny) (pCons (pOsl (0 : Nat) (0 : Nat) (0 : Nat)) (pCons (pInt IntKind.i64) (pCons (pInt IntKind.i64) pNil)))) (pCons (pBox (0 : Nat) (1 : Nat) (9 : Nat) false true pAny) pNil) fun (row, (out, (t10, (t11, _)))) (out_xs, _) => ((Iter (report_values_M_l0_step row out t10) (t11, out_xs)).isSome, report_values_M_l0_out row out t10 ((Iter (report_values_M_l0_step row out t10) (t11, out_xs)).getD []))
theorem report_values_M_l0_lok : LoopOk Tryz.prog (ITryz.at report_values_M_E0.pin) report_values_M_E0.nt (loopAt Tryz.f28 0) report_values_M_l0_lp := lok_of fun vv bb rr hh => by
  obtain ⟨row, ⟨out, ⟨t10, ⟨t11, _⟩⟩⟩⟩ := vv
  obtain ⟨out_xs, _⟩ := bb
  obtain ⟨hh1, rfl⟩ := Prod.mk.inj hh
  exact loop_of_XR mxTryz (inv0Ok Tryz.prog _) rfl report_values_M_E0_ok report_values_M_E0_lk28_0 (report_values_M_l0_L row out t10) (report_values_M_l0_out row out t10) (fun p => by simp only [report_values_M_l0_out, LR.eval]; first | (simp; done) | (repeat' split <;> simp)) (report_values_M_l0_r row out t10) (s := (t11, out_xs)) (getD_of_isSome hh1)


/-- The environment of bitemporal/report.values: its loops so far. -/

noncomputable def report_values_M_E1 : Env := EK4_1.fn 28 0 (lsOf []) (lpsOf [(3, report_values_M_l0_lp)])

theorem report_values_M_E1_ok : OrcOk Tryz.prog (ITryz.at 0) report_values_M_E1 := EK4_1_ok.fn

theorem report_values_M_E1_lk28 : LoOk Tryz.prog (ITryz.at report_values_M_E1.pin) report_values_M_E1 (Tryz.f28.body.getD .skip) := loOk_all (ls := [loopAt Tryz.f28 0]) (by kernel_rfl) (fun l hl lp hs => by
  simp only [List.mem_cons, List.not_mem_nil, or_false] at hl
  rcases hl with rfl
  · rw [show report_values_M_E1.lp (codeId (loopAt Tryz.f28 0)) = some report_values_M_l0_lp by kernel_rfl] at hs
    simp only [Option.some.injEq] at hs; subst hs; exact report_values_M_l0_lok)

/- 5 nodes -/
noncomputable def report_values_M_t {T : Type} (row : List AV) (n : Int) (δ : T) (κ : Nat × List AV → T) : T := br (decide ((0 : Int) ≤ n) && (decide (n ≤ n) && (decide ((16 : Int) * n ≤ (281474976710656 : Int)) && decide (n ≤ (4611686018427387904 : Int))))) (br ((Iter (report_values_M_l0_step row n.toNat (↑n.toNat : Int)) ((0 : Int), List.replicate n.toNat (AV.str []))).isSome) (κ (n.toNat, (Iter (report_values_M_l0_step row n.toNat (↑n.toNat : Int)) ((0 : Int), List.replicate n.toNat (AV.str []))).getD [])) (δ)) (δ)
noncomputable def report_values_M (row : List AV) (n : Int) : Option (Nat × List AV) := report_values_M_t row n none some
theorem report_values_M_x (row : List AV) (n : Int) : Enc (fun (p : Nat × List AV) => (((AV.osl 0 0 0 p.1, ([⟨0, (1 : Nat), (9 : Nat), p.2, false, true⟩] : List Box))) : (AV × List Box))) (report_values_M row n) (XFM Tryz.prog report_values_M_E1 Tryz.f28 (Tryz.f28.body.getD .skip) [AV.list (3 : Nat) row, AV.int IntKind.i64 n] []) := by
  have h : XFM Tryz.prog report_values_M_E1 Tryz.f28 (Tryz.f28.body.getD .skip) [AV.list (3 : Nat) row, AV.int IntKind.i64 n] [] = report_values_M_t row n none (fun (p : Nat × List AV) => some (((AV.osl 0 0 0 p.1, ([⟨0, (1 : Nat), (9 : Nat), p.2, false, true⟩] : List Box))) : (AV × List Box))) := by kernel_rfl
  rw [h]; unfold report_values_M report_values_M_t; repeat' (first | exact Enc.none | exact Enc.some rfl | refine Enc.br ?_ ?_)
noncomputable def report_values_M_o : List AV → List Box → Option (Bool × AV × List Box) := omOf (sCons (sList (3 : Nat) pAny) (sCons (sEq (pInt IntKind.i64)) sNil)) pNil fun (row, (n, _)) _ => ((report_values_M row n).isSome, ((AV.osl 0 0 0 ((report_values_M row n).getD (0, [])).1, ([⟨0, (1 : Nat), (9 : Nat), ((report_values_M row n).getD (0, [])).2, false, true⟩] : List Box))))
theorem report_values_M_c : OmOk Tryz.prog ITryz 28 (report_values_M_o) := omOk_of fun vv bb rr hh' hh => by
  obtain ⟨row, ⟨n, _⟩⟩ := vv
  obtain ⟨hh1, hh2⟩ := Prod.mk.inj hh
  refine goodM_pin (p := report_values_M_E1.pin) (goodM_XFM mxTryz (inv0Ok Tryz.prog _) rfl report_values_M_E1_ok rfl Tryz.func28 rfl (by kernel_rfl) report_values_M_E1_lk28 ((report_values_M_x _ _ _ (getD_of_isSome (d := (0, [])) hh1)).trans ?_))
  exact congrArg some hh2


noncomputable def EK4_2 : Env := EK4_1.withM 28 report_values_M_o

theorem EK4_2_ok : OrcOk Tryz.prog ITryz EK4_2 := EK4_1_ok.withM report_values_M_c

/-- The environment of slices.Concat   string,string : its loops so far. -/

noncomputable def slices_Concat_E0 : Env := EK4_2.fn 36 0 (lsOf []) (lpsOf [])

theorem slices_Concat_E0_ok : OrcOk Tryz.prog (ITryz.at 0) slices_Concat_E0 := EK4_2_ok.fn

theorem slices_Concat_E0_lk47 : LoOk Tryz.prog (ITryz.at slices_Concat_E0.pin) slices_Concat_E0 (Tryz.f47.body.getD .skip) := loOk_all (ls := [loopAt Tryz.f47 0, loopAt Tryz.f47 1]) (by kernel_rfl) (fun l hl lp hs => by
  simp only [List.mem_cons, List.not_mem_nil, or_false] at hl
  rcases hl with rfl | rfl
  · rw [show slices_Concat_E0.lp (codeId (loopAt Tryz.f47 0)) = none by kernel_rfl] at hs
    simp at hs
  · rw [show slices_Concat_E0.lp (codeId (loopAt Tryz.f47 1)) = none by kernel_rfl] at hs
    simp at hs)

/- 17 nodes -/
noncomputable def slices_Concat_v0 (a : List AV) (b : List AV) (c : List AV) : Int := IntKind.i64.wrap (IntKind.i64.wrap (IntKind.i64.wrap ((0 : Int) + (↑a.length : Int)) + (↑b.length : Int)) + (↑c.length : Int))
noncomputable def slices_Concat_v2 (a : List AV) (b : List AV) : Nat := (0 : Nat) + a.length + b.length
noncomputable def slices_Concat_v1 (a : List AV) (b : List AV) (c : List AV) : Nat := slices_Concat_v2 a b + c.length
noncomputable def slices_Concat_t {T : Type} (a : List AV) (b : List AV) (c : List AV) (δ : T) (κ : List AV → T) : T := br (decide (IntKind.i64.wrap ((0 : Int) + (↑a.length : Int)) < (0 : Int))) (δ) (br (decide (IntKind.i64.wrap (IntKind.i64.wrap ((0 : Int) + (↑a.length : Int)) + (↑b.length : Int)) < (0 : Int))) (δ) (br (decide (slices_Concat_v0 a b c < (0 : Int))) (δ) (br (decide ((0 : Int) ≤ slices_Concat_v0 a b c) && decide (slices_Concat_v0 a b c ≤ (4398046511104 : Int))) (br (decide (((0 : Nat) + a.length) * (16 : Nat) ≤ (140737488355328 : Nat)) && decide ((0 : Nat) + a.length ≤ (4611686018427387904 : Nat))) (br ((0 : Nat) + a.length == ([] ++ a).length && (decide (slices_Concat_v2 a b * (16 : Nat) ≤ (140737488355328 : Nat)) && decide (slices_Concat_v2 a b ≤ (4611686018427387904 : Nat)))) (br (slices_Concat_v2 a b == ([] ++ a ++ b).length && (decide (slices_Concat_v1 a b c * (16 : Nat) ≤ (140737488355328 : Nat)) && decide (slices_Concat_v1 a b c ≤ (4611686018427387904 : Nat)))) (br (decide ((0 : Nat) + slices_Concat_v1 a b c ≤ ([] ++ a ++ b ++ c).length) && true) (κ (List.take (slices_Concat_v1 a b c) (List.drop (0 : Nat) ([] ++ a ++ b ++ c)))) (δ)) (δ)) (δ)) (δ)) (δ))))
noncomputable def slices_Concat (a : List AV) (b : List AV) (c : List AV) : Option (List AV) := slices_Concat_t a b c none some
theorem slices_Concat_x (a : List AV) (b : List AV) (c : List AV) : Enc (fun (p : List AV) => ((AV.list (1 : Nat) p) : AV)) (slices_Concat a b c) (XF Tryz.prog slices_Concat_E0 Tryz.f47 (Tryz.f47.body.getD .skip) [AV.list (1 : Nat) [AV.list (1 : Nat) a, AV.list (1 : Nat) b, AV.list (1 : Nat) c]]) := by
  have h : XF Tryz.prog slices_Concat_E0 Tryz.f47 (Tryz.f47.body.getD .skip) [AV.list (1 : Nat) [AV.list (1 : Nat) a, AV.list (1 : Nat) b, AV.list (1 : Nat) c]] = slices_Concat_t a b c none (fun (p : List AV) => some ((AV.list (1 : Nat) p) : AV)) := by kernel_rfl
  rw [h]; unfold slices_Concat slices_Concat_t; repeat' (first | exact Enc.none | exact Enc.some rfl | refine Enc.br ?_ ?_)
noncomputable def slices_Concat_o : List AV → Option (Bool × AV) := ocOf (sCons (sList (1 : Nat) (pCons (pList (1 : Nat) pAny) (pCons (pList (1 : Nat) pAny) (pCons (pList (1 : Nat) pAny) pNil)))) sNil) fun ((a, (b, (c, _))), _) => ((slices_Concat a b c).isSome, (AV.list (1 : Nat) ((slices_Concat a b c).getD [])))
theorem slices_Concat_c : OcOk Tryz.prog ITryz 47 (slices_Concat_o) := ocOk_of fun vv rr hh => by
  obtain ⟨⟨a, ⟨b, ⟨c, _⟩⟩⟩, _⟩ := vv
  obtain ⟨hh1, hh2⟩ := Prod.mk.inj hh
  refine good_pin (p := slices_Concat_E0.pin) (good_XF mxTryz (inv0Ok Tryz.prog _) rfl slices_Concat_E0_ok Tryz.func47 rfl (by kernel_rfl) slices_Concat_E0_lk47 ((slices_Concat_x _ _ _ _ (getD_of_isSome (d := []) hh1)).trans ?_))
  exact congrArg some hh2


noncomputable def EK4_3 : Env := EK4_2.with 47 slices_Concat_o

theorem EK4_3_ok : OrcOk Tryz.prog ITryz EK4_3 := EK4_2_ok.with slices_Concat_c

/-- The environment of bitemporal/report.Result$1: its loops so far. -/

noncomputable def report_Result1_E0 : Env := EK4_3.fn 7 0 (lsOf []) (lpsOf [])

theorem report_Result1_E0_ok : OrcOk Tryz.prog (ITryz.at 0) report_Result1_E0 := EK4_3_ok.fn

theorem report_Result1_E0_lk26 : LoOk Tryz.prog (ITryz.at report_Result1_E0.pin) report_Result1_E0 (Tryz.f26.body.getD .skip) := loOk_nil (by kernel_rfl)

/- 1 nodes -/
noncomputable def report_Result1 (f_r : List AV) (f_f : Int) (f_t : Int) : Bool := ((!(f_f == (0 : Int) && (f_t == (0 : Int) && true))))
noncomputable def report_Result1_pre (f_r : List AV) (f_f : Int) (f_t : Int) : Bool := true
noncomputable def report_Result1_t {T : Type} (f_r : List AV) (f_f : Int) (f_t : Int) (δ : T) (κ : Bool → T) : T := κ (!(f_f == (0 : Int) && (f_t == (0 : Int) && true)))
theorem report_Result1_x (f_r : List AV) (f_f : Int) (f_t : Int) : Pre (report_Result1_pre f_r f_f f_t) (XF Tryz.prog report_Result1_E0 Tryz.f26 (Tryz.f26.body.getD .skip) [AV.agg [AV.list (3 : Nat) f_r, AV.int IntKind.i64 f_f, AV.int IntKind.i64 f_t]]) (AV.bool (report_Result1 f_r f_f f_t)) := by
  have h : XF Tryz.prog report_Result1_E0 Tryz.f26 (Tryz.f26.body.getD .skip) [AV.agg [AV.list (3 : Nat) f_r, AV.int IntKind.i64 f_f, AV.int IntKind.i64 f_t]] = report_Result1_t f_r f_f f_t none (fun (p : Bool) => some ((AV.bool p) : AV)) := by kernel_rfl
  rw [h]; unfold report_Result1 report_Result1_pre report_Result1_t; repeat' (first | exact Pre.none | exact Pre.tt rfl | exact Pre.some rfl | refine Pre.l ?_ | refine Pre.r ?_ | refine Pre.br (f := fun (p : Bool) => ((AV.bool p) : AV)) ?_ ?_ | refine Pre.brt (f := fun (p : Bool) => ((AV.bool p) : AV)) ?_ ?_)
noncomputable def report_Result1_o : List AV → Option (Bool × AV) := ocOf (sCons (sAgg (sCons (sList (3 : Nat) pAny) (sCons (sEq (pInt IntKind.i64)) (sCons (sEq (pInt IntKind.i64)) sNil)))) sNil) fun ((f_r, (f_f, (f_t, _))), _) => (true, (AV.bool (report_Result1 f_r f_f f_t)))
theorem report_Result1_c : OcOk Tryz.prog ITryz 26 (report_Result1_o) := ocOk_of fun vv rr hh => by
  obtain ⟨⟨f_r, ⟨f_f, ⟨f_t, _⟩⟩⟩, _⟩ := vv
  obtain ⟨hh1, hh2⟩ := Prod.mk.inj hh
  refine good_pin (p := report_Result1_E0.pin) (good_XF mxTryz (inv0Ok Tryz.prog _) rfl report_Result1_E0_ok Tryz.func26 rfl (by kernel_rfl) report_Result1_E0_lk26 ((Pre.get (report_Result1_x _ _ _) rfl).trans ?_))
  exact congrArg some hh2


noncomputable def EK4_4 : Env := EK4_3.with 26 report_Result1_o

theorem EK4_4_ok : OrcOk Tryz.prog ITryz EK4_4 := EK4_3_ok.with report_Result1_c

/-- The environment of slices.IndexFunc   bitemporal/api.Fact,bitemporal/api.Fact : its loops so far. -/

noncomputable def slices_IndexFunc_E0 : Env := EK4_4.fn 19 0 (lsOf []) (lpsOf [])

theorem slices_IndexFunc_E0_ok : OrcOk Tryz.prog (ITryz.at 0) slices_IndexFunc_E0 := EK4_4_ok.fn

theorem slices_IndexFunc_E0_lk51_0 : LoOk Tryz.prog (ITryz.at slices_IndexFunc_E0.pin) slices_IndexFunc_E0 (loopAt Tryz.f51 0) := loOk_nil (by kernel_rfl)

/- 9 nodes -/
noncomputable def slices_IndexFunc_l0_t {T : Type} (s0 : List AV) (t7 : Int) (t8 : Int) (δ : T) (κl : (Int) → T) (κr : (Bool × (Int) × (Unit)) → T) : T := br (decide (t8 < t7)) (br (decide ((0 : Int) ≤ t8) && decide (t8 < (↑s0.length : Int))) (br (decide (t8.toNat < s0.length) && ((s0.getD t8.toNat AV.top).cells.length == (3 : Nat) && hasShs [Sh.list (3 : Nat), Sh.int IntKind.i64, Sh.int IntKind.i64] (s0.getD t8.toNat AV.top).cells (0 : Nat))) (br (report_Result1 ((s0.getD t8.toNat AV.top).cells.getD (0 : Nat) AV.top).toList ((s0.getD t8.toNat AV.top).cells.getD (1 : Nat) AV.top).toInt ((s0.getD t8.toNat AV.top).cells.getD (2 : Nat) AV.top).toInt) (κr (true, (t8), ())) (κl (IntKind.i64.wrap (t8 + (1 : Int))))) (δ)) (δ)) (κr (false, 0, ()))
noncomputable def slices_IndexFunc_l0_step (s0 : List AV) (t7 : Int) : (Int) → Option ((Int) ⊕ (Bool × (Int) × (Unit))) := fun (t8) => slices_IndexFunc_l0_t s0 t7 t8 none (fun s => some (.inl s)) (fun p => some (.inr p))
noncomputable def slices_IndexFunc_l0_L (s0 : List AV) (t7 : Int) : (Int) → List AV × List Box := fun (t8) => ([AV.list (3 : Nat) s0, AV.func (26 : Nat) [], AV.int IntKind.i64 t7, AV.int IntKind.i64 t8], [])
noncomputable def slices_IndexFunc_l0_out (s0 : List AV) (t7 : Int) : (Bool × (Int) × (Unit)) → LR := fun p => (.node p.1 (.leaf (Exit.ret) [AV.int IntKind.i64 p.2.1] []) (.leaf (Exit.exit (0 : Nat)) [AV.top] []))
noncomputable abbrev slices_IndexFunc_l0_X (vals : List AV) (H : List Box) := XR Tryz.prog slices_IndexFunc_E0 [0, 1, 7, 8] [4] [] (loopAt Tryz.f51 0) vals H
theorem slices_IndexFunc_l0_r (s0 : List AV) (t7 : Int) (t8 : Int) : Enc (encR (slices_IndexFunc_l0_L s0 t7) (slices_IndexFunc_l0_out s0 t7)) (slices_IndexFunc_l0_step s0 t7 t8) (slices_IndexFunc_l0_X (slices_IndexFunc_l0_L s0 t7 t8).1 (slices_IndexFunc_l0_L s0 t7 t8).2) := by
  have h : slices_IndexFunc_l0_X (slices_IndexFunc_l0_L s0 t7 t8).1 (slices_IndexFunc_l0_L s0 t7 t8).2 = slices_IndexFunc_l0_t s0 t7 t8 none (fun s => some (encR (slices_IndexFunc_l0_L s0 t7) (slices_IndexFunc_l0_out s0 t7) (.inl s))) (fun p => some (encR (slices_IndexFunc_l0_L s0 t7) (slices_IndexFunc_l0_out s0 t7) (.inr p))) := by kernel_rfl
  rw [h]; unfold slices_IndexFunc_l0_step slices_IndexFunc_l0_t; repeat' (first | exact Enc.none | exact Enc.some rfl | refine Enc.br ?_ ?_)
noncomputable def slices_IndexFunc_l0_lp : Lp := lpOf [0, 1, 7, 8] [4] [] (pCons (pList (3 : Nat) pAny) (pCons (pFunc (26 : Nat) pNil) (pCons (pInt IntKind.i64) (pCons (pInt IntKind.i64) pNil)))) pNil fun (s0, (_, (t7, (t8, _)))) _ => ((Iter (slices_IndexFunc_l0_step s0 t7) (t8)).isSome, slices_IndexFunc_l0_out s0 t7 ((Iter (slices_IndexFunc_l0_step s0 t7) (t8)).getD (false, 0, ())))
theorem slices_IndexFunc_l0_lok : LoopOk Tryz.prog (ITryz.at slices_IndexFunc_E0.pin) slices_IndexFunc_E0.nt (loopAt Tryz.f51 0) slices_IndexFunc_l0_lp := lok_of fun vv bb rr hh => by
  obtain ⟨s0, ⟨_, ⟨t7, ⟨t8, _⟩⟩⟩⟩ := vv
  obtain ⟨hh1, rfl⟩ := Prod.mk.inj hh
  exact loop_of_XR mxTryz (inv0Ok Tryz.prog _) rfl slices_IndexFunc_E0_ok slices_IndexFunc_E0_lk51_0 (slices_IndexFunc_l0_L s0 t7) (slices_IndexFunc_l0_out s0 t7) (fun p => by simp only [slices_IndexFunc_l0_out, LR.eval]; first | (simp; done) | (repeat' split <;> simp)) (slices_IndexFunc_l0_r s0 t7) (s := (t8)) (getD_of_isSome hh1)


/-- The environment of slices.IndexFunc   bitemporal/api.Fact,bitemporal/api.Fact : its loops so far. -/

noncomputable def slices_IndexFunc_E1 : Env := EK4_4.fn 19 0 (lsOf []) (lpsOf [(2, slices_IndexFunc_l0_lp)])

theorem slices_IndexFunc_E1_ok : OrcOk Tryz.prog (ITryz.at 0) slices_IndexFunc_E1 := EK4_4_ok.fn

theorem slices_IndexFunc_E1_lk51 : LoOk Tryz.prog (ITryz.at slices_IndexFunc_E1.pin) slices_IndexFunc_E1 (Tryz.f51.body.getD .skip) := loOk_all (ls := [loopAt Tryz.f51 0]) (by kernel_rfl) (fun l hl lp hs => by
  simp only [List.mem_cons, List.not_mem_nil, or_false] at hl
  rcases hl with rfl
  · rw [show slices_IndexFunc_E1.lp (codeId (loopAt Tryz.f51 0)) = some slices_IndexFunc_l0_lp by kernel_rfl] at hs
    simp only [Option.some.injEq] at hs; subst hs; exact slices_IndexFunc_l0_lok)

/- 5 nodes -/
noncomputable def slices_IndexFunc_t {T : Type} (l : List AV) (δ : T) (κ : Int → T) : T := br ((Iter (slices_IndexFunc_l0_step l (↑l.length : Int)) (0 : Int)).isSome) (br (((Iter (slices_IndexFunc_l0_step l (↑l.length : Int)) (0 : Int)).getD (false, (0 : Int), ())).fst) (κ (((Iter (slices_IndexFunc_l0_step l (↑l.length : Int)) (0 : Int)).getD (false, (0 : Int), ())).snd.fst)) (κ ((-1 : Int)))) (δ)
noncomputable def slices_IndexFunc (l : List AV) : Option (Int) := slices_IndexFunc_t l none some
theorem slices_IndexFunc_x (l : List AV) : Enc (fun (p : Int) => ((AV.int IntKind.i64 p) : AV)) (slices_IndexFunc l) (XF Tryz.prog slices_IndexFunc_E1 Tryz.f51 (Tryz.f51.body.getD .skip) [AV.list (3 : Nat) l, AV.func (26 : FuncId) []]) := by
  have h : XF Tryz.prog slices_IndexFunc_E1 Tryz.f51 (Tryz.f51.body.getD .skip) [AV.list (3 : Nat) l, AV.func (26 : FuncId) []] = slices_IndexFunc_t l none (fun (p : Int) => some ((AV.int IntKind.i64 p) : AV)) := by kernel_rfl
  rw [h]; unfold slices_IndexFunc slices_IndexFunc_t; repeat' (first | exact Enc.none | exact Enc.some rfl | refine Enc.br ?_ ?_)
noncomputable def slices_IndexFunc_o : List AV → Option (Bool × AV) := ocOf (sCons (sList (3 : Nat) pAny) (sCons (sEq (pFunc (26 : FuncId) pNil)) sNil)) fun (l, (_, _)) => ((slices_IndexFunc l).isSome, (AV.int IntKind.i64 ((slices_IndexFunc l).getD 0)))
theorem slices_IndexFunc_c : OcOk Tryz.prog ITryz 51 (slices_IndexFunc_o) := ocOk_of fun vv rr hh => by
  obtain ⟨l, ⟨_, _⟩⟩ := vv
  obtain ⟨hh1, hh2⟩ := Prod.mk.inj hh
  refine good_pin (p := slices_IndexFunc_E1.pin) (good_XF mxTryz (inv0Ok Tryz.prog _) rfl slices_IndexFunc_E1_ok Tryz.func51 rfl (by kernel_rfl) slices_IndexFunc_E1_lk51 ((slices_IndexFunc_x _ _ (getD_of_isSome (d := 0) hh1)).trans ?_))
  exact congrArg some hh2


noncomputable def EK4_5 : Env := EK4_4.with 51 slices_IndexFunc_o

theorem EK4_5_ok : OrcOk Tryz.prog ITryz EK4_5 := EK4_4_ok.with slices_IndexFunc_c

/-- The environment of slices.ContainsFunc   bitemporal/api.Fact,bitemporal/api.Fact : its loops so far. -/

noncomputable def slices_ContainsFunc_E0 : Env := EK4_5.fn 9 0 (lsOf []) (lpsOf [])

theorem slices_ContainsFunc_E0_ok : OrcOk Tryz.prog (ITryz.at 0) slices_ContainsFunc_E0 := EK4_5_ok.fn

theorem slices_ContainsFunc_E0_lk25 : LoOk Tryz.prog (ITryz.at slices_ContainsFunc_E0.pin) slices_ContainsFunc_E0 (Tryz.f25.body.getD .skip) := loOk_nil (by kernel_rfl)

/- 3 nodes -/
noncomputable def slices_ContainsFunc_t {T : Type} (l : List AV) (δ : T) (κ : Bool → T) : T := br ((slices_IndexFunc l).isSome) (κ (decide ((slices_IndexFunc l).getD (0 : Int) ≥ (0 : Int)))) (δ)
noncomputable def slices_ContainsFunc (l : List AV) : Option (Bool) := slices_ContainsFunc_t l none some
theorem slices_ContainsFunc_x (l : List AV) : Enc (fun (p : Bool) => ((AV.bool p) : AV)) (slices_ContainsFunc l) (XF Tryz.prog slices_ContainsFunc_E0 Tryz.f25 (Tryz.f25.body.getD .skip) [AV.list (3 : Nat) l, AV.func (26 : FuncId) []]) := by
  have h : XF Tryz.prog slices_ContainsFunc_E0 Tryz.f25 (Tryz.f25.body.getD .skip) [AV.list (3 : Nat) l, AV.func (26 : FuncId) []] = slices_ContainsFunc_t l none (fun (p : Bool) => some ((AV.bool p) : AV)) := by kernel_rfl
  rw [h]; unfold slices_ContainsFunc slices_ContainsFunc_t; repeat' (first | exact Enc.none | exact Enc.some rfl | refine Enc.br ?_ ?_)
noncomputable def slices_ContainsFunc_o : List AV → Option (Bool × AV) := ocOf (sCons (sList (3 : Nat) pAny) (sCons (sEq (pFunc (26 : FuncId) pNil)) sNil)) fun (l, (_, _)) => ((slices_ContainsFunc l).isSome, (AV.bool ((slices_ContainsFunc l).getD false)))
theorem slices_ContainsFunc_c : OcOk Tryz.prog ITryz 25 (slices_ContainsFunc_o) := ocOk_of fun vv rr hh => by
  obtain ⟨l, ⟨_, _⟩⟩ := vv
  obtain ⟨hh1, hh2⟩ := Prod.mk.inj hh
  refine good_pin (p := slices_ContainsFunc_E0.pin) (good_XF mxTryz (inv0Ok Tryz.prog _) rfl slices_ContainsFunc_E0_ok Tryz.func25 rfl (by kernel_rfl) slices_ContainsFunc_E0_lk25 ((slices_ContainsFunc_x _ _ (getD_of_isSome (d := false) hh1)).trans ?_))
  exact congrArg some hh2


noncomputable def EK4_6 : Env := EK4_5.with 25 slices_ContainsFunc_o

theorem EK4_6_ok : OrcOk Tryz.prog ITryz EK4_6 := EK4_5_ok.with slices_ContainsFunc_c

noncomputable abbrev EK4 : Env := EK4_6

theorem EK4_ok : OrcOk Tryz.prog ITryz EK4 := EK4_6_ok

end Go.Sim.M
