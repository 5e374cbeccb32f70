/- Functions of the program as the executor found them: printed by program, checked by the kernel. -/
import Derived.Test.YtpnibjljhfgjaaaDoorSrtE
import Derived.Test.YtpnibjljhfgjaaaDoorPat
set_option linter.unusedVariables false
set_option linter.unusedSimpArgs false
set_option maxRecDepth 100000
namespace Go.Sim.M
open Go.RowKit Go.Proofs

/-- The environment of bitemporal/span.edges: its loops so far. -/

noncomputable def span_edges_E0 : Env := EKS.fn 49 0 (lsOf []) (lpsOf [])

theorem span_edges_E0_ok : OrcOk Tryd.prog (ITryd.at 0) span_edges_E0 := EKS_ok.fn

theorem span_edges_E0_lk41_0 : LoOk Tryd.prog (ITryd.at span_edges_E0.pin) span_edges_E0 (loopAt Tryd.f41 0) := loOk_nil (by kernel_rfl)

/- 11 nodes -/
noncomputable def span_edges_l0_t {T : Type} (b : List AV) (t10 : List AV) (t11 : Int) (out_n : Nat) (t12 : Int) (out_xs : List AV) (δ : T) (κl : (Nat × Int × List AV) → T) (κr : (Nat × List AV) → T) : T := br (decide (t12 < t11)) (br (decide ((0 : Int) ≤ t12) && decide (t12 < (↑t10.length : Int))) (br (decide (t12.toNat < t10.length) && ((t10.getD t12.toNat AV.top).cells.length == (2 : Nat) && hasShs [Sh.int IntKind.i64, Sh.int IntKind.i64] (t10.getD t12.toNat AV.top).cells (0 : Nat))) (br (period_Valid ((t10.getD t12.toNat AV.top).cells.getD (0 : Nat) AV.top).toInt ((t10.getD t12.toNat AV.top).cells.getD (1 : Nat) AV.top).toInt) (br (out_n == out_xs.length && (decide ((out_n + (2 : Nat)) * (24 : Nat) ≤ (140737488355328 : Nat)) && decide (out_n + (2 : Nat) ≤ (4611686018427387904 : Nat)))) (κl (out_n + (2 : Nat), IntKind.i64.wrap (t12 + (1 : Int)), out_xs ++ [AV.agg [AV.int IntKind.i64 ((t10.getD t12.toNat AV.top).cells.getD (0 : Nat) AV.top).toInt, AV.int IntKind.i64 (1 : Int), AV.int IntKind.i64 (0 : Int)], AV.agg [AV.int IntKind.i64 ((t10.getD t12.toNat AV.top).cells.getD (1 : Nat) AV.top).toInt, AV.int IntKind.i64 (-1 : Int), AV.int IntKind.i64 (0 : Int)]])) (δ)) (κl (out_n, IntKind.i64.wrap (t12 + (1 : Int)), out_xs))) (δ)) (δ)) (κr (out_n, out_xs))
noncomputable def span_edges_l0_step (b : List AV) (t10 : List AV) (t11 : Int) : (Nat × Int × List AV) → Option ((Nat × Int × List AV) ⊕ (Nat × List AV)) := fun (out_n, t12, out_xs) => span_edges_l0_t b t10 t11 out_n t12 out_xs none (fun s => some (.inl s)) (fun p => some (.inr p))
noncomputable def span_edges_l0_L (b : List AV) (t10 : List AV) (t11 : Int) : (Nat × Int × List AV) → List AV × List Box := fun (out_n, t12, out_xs) => ([AV.list (2 : Nat) b, AV.osl 0 0 0 out_n, AV.list (2 : Nat) t10, AV.int IntKind.i64 t11, AV.int IntKind.i64 t12], [⟨0, (3 : Nat), (83 : Nat), out_xs, false, true⟩])
noncomputable def span_edges_l0_out (b : List AV) (t10 : List AV) (t11 : Int) : (Nat × List AV) → LR := fun p => (.leaf (Exit.exit (0 : Nat)) [AV.list (2 : Nat) b, AV.osl 0 0 0 p.1] [⟨0, (3 : Nat), (83 : Nat), p.2, false, true⟩])
noncomputable abbrev span_edges_l0_X (vals : List AV) (H : List Box) := XR Tryd.prog span_edges_E0 [1, 5, 10, 11, 12] [1, 5] [(5, 3, 83)] (loopAt Tryd.f41 0) vals H
theorem span_edges_l0_r (b : List AV) (t10 : List AV) (t11 : Int) (s : Nat × Int × List AV) : Enc (encR (span_edges_l0_L b t10 t11) (span_edges_l0_out b t10 t11)) (span_edges_l0_step b t10 t11 s) (span_edges_l0_X (span_edges_l0_L b t10 t11 s).1 (span_edges_l0_L b t10 t11 s).2) := by
  obtain ⟨out_n, t12, out_xs⟩ := s
  have h : span_edges_l0_X (span_edges_l0_L b t10 t11 (out_n, t12, out_xs)).1 (span_edges_l0_L b t10 t11 (out_n, t12, out_xs)).2 = span_edges_l0_t b t10 t11 out_n t12 out_xs none (fun s => some (encR (span_edges_l0_L b t10 t11) (span_edges_l0_out b t10 t11) (.inl s))) (fun p => some (encR (span_edges_l0_L b t10 t11) (span_edges_l0_out b t10 t11) (.inr p))) := by kernel_rfl
  rw [h]; unfold span_edges_l0_step span_edges_l0_t; repeat' (first | exact Enc.none | exact Enc.some rfl | refine Enc.br ?_ ?_)
noncomputable def span_edges_l0_lp : Lp := lpOf [1, 5, 10, 11, 12] [1, 5] [(5, 3, 83)] (pCons (pList (2 : Nat) pAny) (pCons (pOsl (0 : Nat) (0 : Nat) (0 : Nat)) (pCons (pList (2 : Nat) pAny) (pCons (pInt IntKind.i64) (pCons (pInt IntKind.i64) pNil))))) (pCons (pBox (0 : Nat) (3 : Nat) (83 : Nat) false true pAny) pNil) fun (b, (out_n, (t10, (t11, (t12, _))))) (out_xs, _) => ((Iter (span_edges_l0_step b t10 t11) (out_n, t12, out_xs)).isSome, span_edges_l0_out b t10 t11 ((Iter (span_edges_l0_step b t10 t11) (out_n, t12, out_xs)).getD (0, [])))
theorem span_edges_l0_lok : LoopOk Tryd.prog (ITryd.at span_edges_E0.pin) span_edges_E0.nt (loopAt Tryd.f41 0) span_edges_l0_lp := lok_of fun vv bb rr hh => by
  obtain ⟨b, ⟨out_n, ⟨t10, ⟨t11, ⟨t12, _⟩⟩⟩⟩⟩ := vv
  obtain ⟨out_xs, _⟩ := bb
  obtain ⟨hh1, rfl⟩ := Prod.mk.inj hh
  exact loop_of_XR mxTryd (inv0Ok Tryd.prog _) rfl span_edges_E0_ok span_edges_E0_lk41_0 (span_edges_l0_L b t10 t11) (span_edges_l0_out b t10 t11) (fun p => by simp only [span_edges_l0_out, LR.eval]; first | (simp; done) | (repeat' split <;> simp)) (span_edges_l0_r b t10 t11) (s := (out_n, t12, out_xs)) (getD_of_isSome hh1)


/-- The environment of bitemporal/span.edges: its loops so far. -/

noncomputable def span_edges_E1 : Env := EKS.fn 49 0 (lsOf []) (lpsOf [(3, span_edges_l0_lp)])

theorem span_edges_E1_ok : OrcOk Tryd.prog (ITryd.at 0) span_edges_E1 := EKS_ok.fn

theorem span_edges_E1_lk41_1 : LoOk Tryd.prog (ITryd.at span_edges_E1.pin) span_edges_E1 (loopAt Tryd.f41 1) := loOk_nil (by kernel_rfl)

/- 11 nodes -/
noncomputable def span_edges_l1_t {T : Type} (t28 : List AV) (t29 : Int) (out_n : Nat) (t30 : Int) (out_xs : List AV) (δ : T) (κl : (Nat × Int × List AV) → T) (κr : (Nat × List AV) → T) : T := br (decide (t30 < t29)) (br (decide ((0 : Int) ≤ t30) && decide (t30 < (↑t28.length : Int))) (br (decide (t30.toNat < t28.length) && ((t28.getD t30.toNat AV.top).cells.length == (2 : Nat) && hasShs [Sh.int IntKind.i64, Sh.int IntKind.i64] (t28.getD t30.toNat AV.top).cells (0 : Nat))) (br (period_Valid ((t28.getD t30.toNat AV.top).cells.getD (0 : Nat) AV.top).toInt ((t28.getD t30.toNat AV.top).cells.getD (1 : Nat) AV.top).toInt) (br (out_n == out_xs.length && (decide ((out_n + (2 : Nat)) * (24 : Nat) ≤ (140737488355328 : Nat)) && decide (out_n + (2 : Nat) ≤ (4611686018427387904 : Nat)))) (κl (out_n + (2 : Nat), IntKind.i64.wrap (t30 + (1 : Int)), out_xs ++ [AV.agg [AV.int IntKind.i64 ((t28.getD t30.toNat AV.top).cells.getD (0 : Nat) AV.top).toInt, AV.int IntKind.i64 (0 : Int), AV.int IntKind.i64 (1 : Int)], AV.agg [AV.int IntKind.i64 ((t28.getD t30.toNat AV.top).cells.getD (1 : Nat) AV.top).toInt, AV.int IntKind.i64 (0 : Int), AV.int IntKind.i64 (-1 : Int)]])) (δ)) (κl (out_n, IntKind.i64.wrap (t30 + (1 : Int)), out_xs))) (δ)) (δ)) (κr (out_n, out_xs))
noncomputable def span_edges_l1_step (t28 : List AV) (t29 : Int) : (Nat × Int × List AV) → Option ((Nat × Int × List AV) ⊕ (Nat × List AV)) := fun (out_n, t30, out_xs) => span_edges_l1_t t28 t29 out_n t30 out_xs none (fun s => some (.inl s)) (fun p => some (.inr p))
noncomputable def span_edges_l1_L (t28 : List AV) (t29 : Int) : (Nat × Int × List AV) → List AV × List Box := fun (out_n, t30, out_xs) => ([AV.osl 0 0 0 out_n, AV.list (2 : Nat) t28, AV.int IntKind.i64 t29, AV.int IntKind.i64 t30], [⟨0, (3 : Nat), (83 : Nat), out_xs, false, true⟩])
noncomputable def span_edges_l1_out (t28 : List AV) (t29 : Int) : (Nat × List AV) → LR := fun p => (.leaf (Exit.exit (2 : Nat)) [AV.osl 0 0 0 p.1] [⟨0, (3 : Nat), (83 : Nat), p.2, false, true⟩])
noncomputable abbrev span_edges_l1_X (vals : List AV) (H : List Box) := XR Tryd.prog span_edges_E1 [5, 28, 29, 30] [5] [(5, 3, 83)] (loopAt Tryd.f41 1) vals H
theorem span_edges_l1_r (t28 : List AV) (t29 : Int) (s : Nat × Int × List AV) : Enc (encR (span_edges_l1_L t28 t29) (span_edges_l1_out t28 t29)) (span_edges_l1_step t28 t29 s) (span_edges_l1_X (span_edges_l1_L t28 t29 s).1 (span_edges_l1_L t28 t29 s).2) := by
  obtain ⟨out_n, t30, out_xs⟩ := s
  have h : span_edges_l1_X (span_edges_l1_L t28 t29 (out_n, t30, out_xs)).1 (span_edges_l1_L t28 t29 (out_n, t30, out_xs)).2 = span_edges_l1_t t28 t29 out_n t30 out_xs none (fun s => some (encR (span_edges_l1_L t28 t29) (span_edges_l1_out t28 t29) (.inl s))) (fun p => some (encR (span_edges_l1_L t28 t29) (span_edges_l1_out t28 t29) (.inr p))) := by kernel_rfl
  rw [h]; unfold span_edges_l1_step span_edges_l1_t; repeat' (first | exact Enc.none | exact Enc.some rfl | refine Enc.br ?_ ?_)
noncomputable def span_edges_l1_lp : Lp := lpOf [5, 28, 29, 30] [5] [(5, 3, 83)] (pCons (pOsl (0 : Nat) (0 : Nat) (0 : Nat)) (pCons (pList (2 : Nat) pAny) (pCons (pInt IntKind.i64) (pCons (pInt IntKind.i64) pNil)))) (pCons (pBox (0 : Nat) (3 : Nat) (83 : Nat) false true pAny) pNil) fun (out_n, (t28, (t29, (t30, _)))) (out_xs, _) => ((Iter (span_edges_l1_step t28 t29) (out_n, t30, out_xs)).isSome, span_edges_l1_out t28 t29 ((Iter (span_edges_l1_step t28 t29) (out_n, t30, out_xs)).getD (0, [])))
theorem span_edges_l1_lok : LoopOk Tryd.prog (ITryd.at span_edges_E1.pin) span_edges_E1.nt (loopAt Tryd.f41 1) span_edges_l1_lp := lok_of fun vv bb rr hh => by
  obtain ⟨out_n, ⟨t28, ⟨t29, ⟨t30, _⟩⟩⟩⟩ := vv
  obtain ⟨out_xs, _⟩ := bb
  obtain ⟨hh1, rfl⟩ := Prod.mk.inj hh
  exact loop_of_XR mxTryd (inv0Ok Tryd.prog _) rfl span_edges_E1_ok span_edges_E1_lk41_1 (span_edges_l1_L t28 t29) (span_edges_l1_out t28 t29) (fun p => by simp only [span_edges_l1_out, LR.eval]; first | (simp; done) | (repeat' split <;> simp)) (span_edges_l1_r t28 t29) (s := (out_n, t30, out_xs)) (getD_of_isSome hh1)


/-- The environment of bitemporal/span.edges: its loops so far. -/

noncomputable def span_edges_E2 : Env := EKS.fn 49 0 (lsOf []) (lpsOf [(3, span_edges_l0_lp), (9, span_edges_l1_lp)])

theorem span_edges_E2_ok : OrcOk Tryd.prog (ITryd.at 0) span_edges_E2 := EKS_ok.fn

theorem span_edges_E2_lk41 : LoOk Tryd.prog (ITryd.at span_edges_E2.pin) span_edges_E2 (Tryd.f41.body.getD .skip) := loOk_all (ls := [loopAt Tryd.f41 0, loopAt Tryd.f41 1]) (by kernel_rfl) (fun l hl lp hs => by
  simp only [List.mem_cons, List.not_mem_nil, or_false] at hl
  rcases hl with rfl | rfl
  · rw [show span_edges_E2.lp (codeId (loopAt Tryd.f41 0)) = some span_edges_l0_lp by kernel_rfl] at hs
    simp only [Option.some.injEq] at hs; subst hs; exact span_edges_l0_lok
  · rw [show span_edges_E2.lp (codeId (loopAt Tryd.f41 1)) = some span_edges_l1_lp by kernel_rfl] at hs
    simp only [Option.some.injEq] at hs; subst hs; exact span_edges_l1_lok)

/- 9 nodes -/
noncomputable def span_edges_v4 (a : List AV) (b : List AV) : Nat × List AV := (Iter (span_edges_l0_step b a (↑a.length : Int)) ((0 : Nat), (0 : Int), [])).getD ((0 : Nat), [])
noncomputable def span_edges_v3 (a : List AV) (b : List AV) : Option (Nat × List AV) := Iter (span_edges_l1_step b (↑b.length : Int)) ((span_edges_v4 a b).fst, (0 : Int), (span_edges_v4 a b).snd)
noncomputable def span_edges_v2 (a : List AV) (b : List AV) : Nat × List AV := (span_edges_v3 a b).getD ((0 : Nat), [])
noncomputable def span_edges_v0 (a : List AV) (b : List AV) : Nat := (span_edges_v2 a b).fst
noncomputable def span_edges_v1 (a : List AV) (b : List AV) : List AV := (span_edges_v2 a b).snd
noncomputable def span_edges_t {T : Type} (a : List AV) (b : List AV) (δ : T) (κ : List AV → T) : T := br ((Iter (span_edges_l0_step b a (↑a.length : Int)) ((0 : Nat), (0 : Int), [])).isSome) (br ((span_edges_v3 a b).isSome) (br ((span_edges_v0 a b).beq (span_edges_v1 a b).length && (decide (span_edges_v0 a b < (4611686018427387904 : Nat)) && (span_edges_v1 a b).all isEdge)) (br (decide ((0 : Nat) + span_edges_v0 a b ≤ (srtE (span_edges_v1 a b)).length) && true) (κ (List.take (span_edges_v0 a b) (List.drop (0 : Nat) (srtE (span_edges_v1 a b))))) (δ)) (δ)) (δ)) (δ)
noncomputable def span_edges (a : List AV) (b : List AV) : Option (List AV) := span_edges_t a b none some
theorem span_edges_x (a : List AV) (b : List AV) : Enc (fun (p : List AV) => ((AV.list (3 : Nat) p) : AV)) (span_edges a b) (XF Tryd.prog span_edges_E2 Tryd.f41 (Tryd.f41.body.getD .skip) [AV.list (2 : Nat) a, AV.list (2 : Nat) b]) := by
  have h : XF Tryd.prog span_edges_E2 Tryd.f41 (Tryd.f41.body.getD .skip) [AV.list (2 : Nat) a, AV.list (2 : Nat) b] = span_edges_t a b none (fun (p : List AV) => some ((AV.list (3 : Nat) p) : AV)) := by kernel_rfl
  rw [h]; unfold span_edges span_edges_t; repeat' (first | exact Enc.none | exact Enc.some rfl | refine Enc.br ?_ ?_)
noncomputable def span_edges_o : List AV → Option (Bool × AV) := ocOf (sCons (sList (2 : Nat) pAny) (sCons (sList (2 : Nat) pAny) sNil)) fun (a, (b, _)) => ((span_edges a b).isSome, (AV.list (3 : Nat) ((span_edges a b).getD [])))
theorem span_edges_c : OcOk Tryd.prog ITryd 41 (span_edges_o) := ocOk_of fun vv rr hh => by
  obtain ⟨a, ⟨b, _⟩⟩ := vv
  obtain ⟨hh1, hh2⟩ := Prod.mk.inj hh
  refine good_pin (p := span_edges_E2.pin) (good_XF mxTryd (inv0Ok Tryd.prog _) rfl span_edges_E2_ok Tryd.func41 rfl (by kernel_rfl) span_edges_E2_lk41 ((span_edges_x _ _ _ (getD_of_isSome (d := []) hh1)).trans ?_))
  exact congrArg some hh2


noncomputable def EKC1_1 : Env := EKS.with 41 span_edges_o

theorem EKC1_1_ok : OrcOk Tryd.prog ITryd EKC1_1 := EKS_ok.with span_edges_c

/-- The environment of bitemporal/span.Intersect$1: its loops so far. -/

noncomputable def span_Intersect_1_E0 : Env := EKC1_1.fn 9 0 (lsOf []) (lpsOf [])

theorem span_Intersect_1_E0_ok : OrcOk Tryd.prog (ITryd.at 0) span_Intersect_1_E0 := EKC1_1_ok.fn

theorem span_Intersect_1_E0_lk28 : LoOk Tryd.prog (ITryd.at span_Intersect_1_E0.pin) span_Intersect_1_E0 (Tryd.f28.body.getD .skip) := loOk_nil (by kernel_rfl)

/- 3 nodes -/
noncomputable def span_Intersect_1 (a : Bool) (b : Bool) : Bool := (br (a) ((b)) ((false)))
noncomputable def span_Intersect_1_pre (a : Bool) (b : Bool) : Bool := true
noncomputable def span_Intersect_1_t {T : Type} (a : Bool) (b : Bool) (δ : T) (κ : Bool → T) : T := br (a) (κ (b)) (κ (false))
theorem span_Intersect_1_x (a : Bool) (b : Bool) : Pre (span_Intersect_1_pre a b) (XF Tryd.prog span_Intersect_1_E0 Tryd.f28 (Tryd.f28.body.getD .skip) [AV.bool a, AV.bool b]) (AV.bool (span_Intersect_1 a b)) := by
  have h : XF Tryd.prog span_Intersect_1_E0 Tryd.f28 (Tryd.f28.body.getD .skip) [AV.bool a, AV.bool b] = span_Intersect_1_t a b none (fun (p : Bool) => some ((AV.bool p) : AV)) := by kernel_rfl
  rw [h]; unfold span_Intersect_1 span_Intersect_1_pre span_Intersect_1_t; repeat' (first | exact Pre.none | exact Pre.tt rfl | exact Pre.some rfl | refine Pre.l ?_ | refine Pre.r ?_ | refine Pre.br (f := fun (p : Bool) => ((AV.bool p) : AV)) ?_ ?_ | refine Pre.brt (f := fun (p : Bool) => ((AV.bool p) : AV)) ?_ ?_)
noncomputable def span_Intersect_1_o : List AV → Option (Bool × AV) := ocOf (sCons (sEq pBool) (sCons (sEq pBool) sNil)) fun (a, (b, _)) => (true, (AV.bool (span_Intersect_1 a b)))
theorem span_Intersect_1_c : OcOk Tryd.prog ITryd 28 (span_Intersect_1_o) := ocOk_of fun vv rr hh => by
  obtain ⟨a, ⟨b, _⟩⟩ := vv
  obtain ⟨hh1, hh2⟩ := Prod.mk.inj hh
  refine good_pin (p := span_Intersect_1_E0.pin) (good_XF mxTryd (inv0Ok Tryd.prog _) rfl span_Intersect_1_E0_ok Tryd.func28 rfl (by kernel_rfl) span_Intersect_1_E0_lk28 ((Pre.get (span_Intersect_1_x _ _) rfl).trans ?_))
  exact congrArg some hh2


noncomputable def EKC1_2 : Env := EKC1_1.with 28 span_Intersect_1_o

theorem EKC1_2_ok : OrcOk Tryd.prog ITryd EKC1_2 := EKC1_1_ok.with span_Intersect_1_c

/-- The environment of bitemporal/span.Subtract$1: its loops so far. -/

noncomputable def span_Subtract_1_E0 : Env := EKC1_2.fn 10 0 (lsOf []) (lpsOf [])

theorem span_Subtract_1_E0_ok : OrcOk Tryd.prog (ITryd.at 0) span_Subtract_1_E0 := EKC1_2_ok.fn

theorem span_Subtract_1_E0_lk43 : LoOk Tryd.prog (ITryd.at span_Subtract_1_E0.pin) span_Subtract_1_E0 (Tryd.f43.body.getD .skip) := loOk_nil (by kernel_rfl)

/- 3 nodes -/
noncomputable def span_Subtract_1 (a : Bool) (b : Bool) : Bool := (br (a) ((!b)) ((false)))
noncomputable def span_Subtract_1_pre (a : Bool) (b : Bool) : Bool := true
noncomputable def span_Subtract_1_t {T : Type} (a : Bool) (b : Bool) (δ : T) (κ : Bool → T) : T := br (a) (κ (!b)) (κ (false))
theorem span_Subtract_1_x (a : Bool) (b : Bool) : Pre (span_Subtract_1_pre a b) (XF Tryd.prog span_Subtract_1_E0 Tryd.f43 (Tryd.f43.body.getD .skip) [AV.bool a, AV.bool b]) (AV.bool (span_Subtract_1 a b)) := by
  have h : XF Tryd.prog span_Subtract_1_E0 Tryd.f43 (Tryd.f43.body.getD .skip) [AV.bool a, AV.bool b] = span_Subtract_1_t a b none (fun (p : Bool) => some ((AV.bool p) : AV)) := by kernel_rfl
  rw [h]; unfold span_Subtract_1 span_Subtract_1_pre span_Subtract_1_t; repeat' (first | exact Pre.none | exact Pre.tt rfl | exact Pre.some rfl | refine Pre.l ?_ | refine Pre.r ?_ | refine Pre.br (f := fun (p : Bool) => ((AV.bool p) : AV)) ?_ ?_ | refine Pre.brt (f := fun (p : Bool) => ((AV.bool p) : AV)) ?_ ?_)
noncomputable def span_Subtract_1_o : List AV → Option (Bool × AV) := ocOf (sCons (sEq pBool) (sCons (sEq pBool) sNil)) fun (a, (b, _)) => (true, (AV.bool (span_Subtract_1 a b)))
theorem span_Subtract_1_c : OcOk Tryd.prog ITryd 43 (span_Subtract_1_o) := ocOk_of fun vv rr hh => by
  obtain ⟨a, ⟨b, _⟩⟩ := vv
  obtain ⟨hh1, hh2⟩ := Prod.mk.inj hh
  refine good_pin (p := span_Subtract_1_E0.pin) (good_XF mxTryd (inv0Ok Tryd.prog _) rfl span_Subtract_1_E0_ok Tryd.func43 rfl (by kernel_rfl) span_Subtract_1_E0_lk43 ((Pre.get (span_Subtract_1_x _ _) rfl).trans ?_))
  exact congrArg some hh2


noncomputable def EKC1_3 : Env := EKC1_2.with 43 span_Subtract_1_o

theorem EKC1_3_ok : OrcOk Tryd.prog ITryd EKC1_3 := EKC1_2_ok.with span_Subtract_1_c

/-- The environment of bitemporal/span.sweep: its loops so far. -/

noncomputable def span_sweep_I_E0 : Env := EKC1_3.fn 92 0 (lsOf []) (lpsOf [])

theorem span_sweep_I_E0_ok : OrcOk Tryd.prog (ITryd.at 0) span_sweep_I_E0 := EKC1_3_ok.fn

theorem span_sweep_I_E0_lk27_1 : LoOk Tryd.prog (ITryd.at span_sweep_I_E0.pin) span_sweep_I_E0 (loopAt Tryd.f27 1) := loOk_nil (by kernel_rfl)

/- 17 nodes -/
noncomputable def span_sweep_I_l1_v0 (l : List AV) (i : Int) : Bool := decide ((0 : Int) ≤ i) && decide (i < (↑l.length : Int))
noncomputable def span_sweep_I_l1_t {T : Type} (l : List AV) (out_n : Nat) (at0 : Int) (na : Int) (nb : Int) (i : Int) (out_xs : List AV) (δ : T) (κl : (Int × Int × Int × List AV) → T) (κr : (Int × Int × Int × List AV) → T) : T := br (decide (i < (↑l.length : Int))) (br (span_sweep_I_l1_v0 l i) (br (decide (i.toNat < l.length) && hasSh1 (Sh.int IntKind.i64) ((l.getD i.toNat AV.top).cells.getD (0 : Nat) AV.top)) (br (((l.getD i.toNat AV.top).cells.getD (0 : Nat) AV.top).toInt == at0) (br (span_sweep_I_l1_v0 l i) (br (decide (i.toNat < l.length) && hasSh1 (Sh.int IntKind.i64) ((l.getD i.toNat AV.top).cells.getD (1 : Nat) AV.top)) (br (span_sweep_I_l1_v0 l i) (br (decide (i.toNat < l.length) && hasSh1 (Sh.int IntKind.i64) ((l.getD i.toNat AV.top).cells.getD (2 : Nat) AV.top)) (κl (IntKind.i64.wrap (na + ((l.getD i.toNat AV.top).cells.getD (1 : Nat) AV.top).toInt), IntKind.i64.wrap (nb + ((l.getD i.toNat AV.top).cells.getD (2 : Nat) AV.top).toInt), IntKind.i64.wrap (i + (1 : Int)), out_xs)) (δ)) (δ)) (δ)) (δ)) (κr (na, nb, i, out_xs))) (δ)) (δ)) (κr (na, nb, i, out_xs))
noncomputable def span_sweep_I_l1_step (l : List AV) (out_n : Nat) (at0 : Int) : (Int × Int × Int × List AV) → Option ((Int × Int × Int × List AV) ⊕ (Int × Int × Int × List AV)) := fun (na, nb, i, out_xs) => span_sweep_I_l1_t l out_n at0 na nb i out_xs none (fun s => some (.inl s)) (fun p => some (.inr p))
noncomputable def span_sweep_I_l1_L (l : List AV) (out_n : Nat) (at0 : Int) : (Int × Int × Int × List AV) → List AV × List Box := fun (na, nb, i, out_xs) => ([AV.func (28 : Nat) [], AV.list (3 : Nat) l, AV.osl 0 0 0 out_n, AV.int IntKind.i64 na, AV.int IntKind.i64 nb, AV.int IntKind.i64 i, AV.int IntKind.i64 at0], [⟨0, (2 : Nat), (27 : Nat), out_xs, false, true⟩])
noncomputable def span_sweep_I_l1_out (l : List AV) (out_n : Nat) (at0 : Int) : (Int × Int × Int × List AV) → LR := fun p => (.leaf (Exit.exit (2 : Nat)) [AV.func (28 : Nat) [], AV.list (3 : Nat) l, AV.osl 0 0 0 out_n, AV.int IntKind.i64 p.1, AV.int IntKind.i64 p.2.1, AV.int IntKind.i64 p.2.2.1, AV.int IntKind.i64 at0] [⟨0, (2 : Nat), (27 : Nat), p.2.2.2, false, true⟩])
noncomputable abbrev span_sweep_I_l1_X (vals : List AV) (H : List Box) := XR Tryd.prog span_sweep_I_E0 [2, 7, 8, 9, 10, 11, 12] [2, 7, 8, 9, 10, 11, 12] [(8, 2, 27)] (loopAt Tryd.f27 1) vals H
theorem span_sweep_I_l1_r (l : List AV) (out_n : Nat) (at0 : Int) (s : Int × Int × Int × List AV) : Enc (encR (span_sweep_I_l1_L l out_n at0) (span_sweep_I_l1_out l out_n at0)) (span_sweep_I_l1_step l out_n at0 s) (span_sweep_I_l1_X (span_sweep_I_l1_L l out_n at0 s).1 (span_sweep_I_l1_L l out_n at0 s).2) := by
  obtain ⟨na, nb, i, out_xs⟩ := s
  have h : span_sweep_I_l1_X (span_sweep_I_l1_L l out_n at0 (na, nb, i, out_xs)).1 (span_sweep_I_l1_L l out_n at0 (na, nb, i, out_xs)).2 = span_sweep_I_l1_t l out_n at0 na nb i out_xs none (fun s => some (encR (span_sweep_I_l1_L l out_n at0) (span_sweep_I_l1_out l out_n at0) (.inl s))) (fun p => some (encR (span_sweep_I_l1_L l out_n at0) (span_sweep_I_l1_out l out_n at0) (.inr p))) := by kernel_rfl
  rw [h]; unfold span_sweep_I_l1_step span_sweep_I_l1_t; repeat' (first | exact Enc.none | exact Enc.some rfl | refine Enc.br ?_ ?_)
noncomputable def span_sweep_I_l1_lp : Lp := lpOf [2, 7, 8, 9, 10, 11, 12] [2, 7, 8, 9, 10, 11, 12] [(8, 2, 27)] (pCons (pFunc (28 : Nat) pNil) (pCons (pList (3 : Nat) pAny) (pCons (pOsl (0 : Nat) (0 : Nat) (0 : Nat)) (pCons (pInt IntKind.i64) (pCons (pInt IntKind.i64) (pCons (pInt IntKind.i64) (pCons (pInt IntKind.i64) pNil))))))) (pCons (pBox (0 : Nat) (2 : Nat) (27 : Nat) false true pAny) pNil) fun (_, (l, (out_n, (na, (nb, (i, (at0, _))))))) (out_xs, _) => ((Iter (span_sweep_I_l1_step l out_n at0) (na, nb, i, out_xs)).isSome, span_sweep_I_l1_out l out_n at0 ((Iter (span_sweep_I_l1_step l out_n at0) (na, nb, i, out_xs)).getD (0, 0, 0, [])))
theorem span_sweep_I_l1_lok : LoopOk Tryd.prog (ITryd.at span_sweep_I_E0.pin) span_sweep_I_E0.nt (loopAt Tryd.f27 1) span_sweep_I_l1_lp := lok_of fun vv bb rr hh => by
  obtain ⟨_, ⟨l, ⟨out_n, ⟨na, ⟨nb, ⟨i, ⟨at0, _⟩⟩⟩⟩⟩⟩⟩ := vv
  obtain ⟨out_xs, _⟩ := bb
  obtain ⟨hh1, rfl⟩ := Prod.mk.inj hh
  exact loop_of_XR mxTryd (inv0Ok Tryd.prog _) rfl span_sweep_I_E0_ok span_sweep_I_E0_lk27_1 (span_sweep_I_l1_L l out_n at0) (span_sweep_I_l1_out l out_n at0) (fun p => by simp only [span_sweep_I_l1_out, LR.eval]; first | (simp; done) | (repeat' split <;> simp)) (span_sweep_I_l1_r l out_n at0) (s := (na, nb, i, out_xs)) (getD_of_isSome hh1)


/-- The environment of bitemporal/span.sweep: its loops so far. -/

noncomputable def span_sweep_I_E1 : Env := EKC1_3.fn 92 0 (lsOf []) (lpsOf [(6, span_sweep_I_l1_lp)])

theorem span_sweep_I_E1_ok : OrcOk Tryd.prog (ITryd.at 0) span_sweep_I_E1 := EKC1_3_ok.fn

theorem span_sweep_I_E1_lk27_0 : LoOk Tryd.prog (ITryd.at span_sweep_I_E1.pin) span_sweep_I_E1 (loopAt Tryd.f27 0) := loOk_all (ls := [loopAt Tryd.f27 1]) (by kernel_rfl) (fun l hl lp hs => by
  simp only [List.mem_cons, List.not_mem_nil, or_false] at hl
  rcases hl with rfl
  · rw [show span_sweep_I_E1.lp (codeId (loopAt Tryd.f27 1)) = some span_sweep_I_l1_lp by kernel_rfl] at hs
    simp only [Option.some.injEq] at hs; subst hs; exact span_sweep_I_l1_lok)

/- 47 nodes -/
noncomputable def span_sweep_I_l0_v4 (out_n : Nat) : Bool := decide ((0 : Int) ≤ IntKind.i64.wrap ((↑out_n : Int) - (1 : Int))) && decide (IntKind.i64.wrap ((↑out_n : Int) - (1 : Int)) < (↑out_n : Int))
noncomputable def span_sweep_I_l0_v10 (l : List AV) (out_n : Nat) (na : Int) (nb : Int) (i : Int) (at0 : Int) (out_xs : List AV) : Int × Int × Int × List AV := (Iter (span_sweep_I_l1_step l out_n at0) (na, nb, i, out_xs)).getD ((0 : Int), (0 : Int), (0 : Int), [])
noncomputable def span_sweep_I_l0_v11 (out_n : Nat) : Nat := (0 : Nat) + (IntKind.i64.wrap ((↑out_n : Int) - (1 : Int))).toNat
noncomputable def span_sweep_I_l0_v8 (l : List AV) (out_n : Nat) (na : Int) (nb : Int) (i : Int) (at0 : Int) (out_xs : List AV) : Int × Int × List AV := (span_sweep_I_l0_v10 l out_n na nb i at0 out_xs).snd
noncomputable def span_sweep_I_l0_v9 (l : List AV) (out_n : Nat) (na : Int) (nb : Int) (i : Int) (at0 : Int) (out_xs : List AV) : Int := (span_sweep_I_l0_v10 l out_n na nb i at0 out_xs).fst
noncomputable def span_sweep_I_l0_v6 (l : List AV) (out_n : Nat) (na : Int) (nb : Int) (i : Int) (at0 : Int) (out_xs : List AV) : Int × List AV := (span_sweep_I_l0_v8 l out_n na nb i at0 out_xs).snd
noncomputable def span_sweep_I_l0_v7 (l : List AV) (out_n : Nat) (na : Int) (nb : Int) (i : Int) (at0 : Int) (out_xs : List AV) : Int := (span_sweep_I_l0_v8 l out_n na nb i at0 out_xs).fst
noncomputable def span_sweep_I_l0_v1 (l : List AV) (out_n : Nat) (na : Int) (nb : Int) (i : Int) (at0 : Int) (out_xs : List AV) : List AV := (span_sweep_I_l0_v6 l out_n na nb i at0 out_xs).snd
noncomputable def span_sweep_I_l0_v2 (l : List AV) (out_n : Nat) (na : Int) (nb : Int) (i : Int) (at0 : Int) (out_xs : List AV) : Bool := span_Intersect_1 (decide (span_sweep_I_l0_v9 l out_n na nb i at0 out_xs > (0 : Int))) (decide (span_sweep_I_l0_v7 l out_n na nb i at0 out_xs > (0 : Int)))
noncomputable def span_sweep_I_l0_v3 (l : List AV) (out_n : Nat) (na : Int) (nb : Int) (i : Int) (at0 : Int) (out_xs : List AV) : Int := (span_sweep_I_l0_v6 l out_n na nb i at0 out_xs).fst
noncomputable def span_sweep_I_l0_v0 (l : List AV) (out_n : Nat) (na : Int) (nb : Int) (i : Int) (at0 : Int) (out_xs : List AV) : Bool := decide (span_sweep_I_l0_v11 out_n < (span_sweep_I_l0_v1 l out_n na nb i at0 out_xs).length)
noncomputable def span_sweep_I_l0_v5 (l : List AV) (out_n : Nat) (na : Int) (nb : Int) (i : Int) (at0 : Int) (out_xs : List AV) : Bool := decide (span_sweep_I_l0_v3 l out_n na nb i at0 out_xs < (↑l.length : Int))
noncomputable def span_sweep_I_l0_t {T : Type} (l : List AV) (out_n : Nat) (na : Int) (nb : Int) (i : Int) (at0 : Int) (out_xs : List AV) (δ : T) (κl : (Nat × Int × Int × Int × Int × List AV) → T) (κr : (Nat × List AV) → T) : T := br (decide (at0 < (1099511627776 : Int))) (br ((Iter (span_sweep_I_l1_step l out_n at0) (na, nb, i, out_xs)).isSome) (br (span_sweep_I_l0_v5 l out_n na nb i at0 out_xs) (br (decide ((0 : Int) ≤ span_sweep_I_l0_v3 l out_n na nb i at0 out_xs) && span_sweep_I_l0_v5 l out_n na nb i at0 out_xs) (br (decide ((span_sweep_I_l0_v3 l out_n na nb i at0 out_xs).toNat < l.length) && hasSh1 (Sh.int IntKind.i64) ((l.getD (span_sweep_I_l0_v3 l out_n na nb i at0 out_xs).toNat AV.top).cells.getD (0 : Nat) AV.top)) (br (span_sweep_I_l0_v2 l out_n na nb i at0 out_xs) (br (decide ((↑out_n : Int) > (0 : Int))) (br (span_sweep_I_l0_v4 out_n) (br (span_sweep_I_l0_v0 l out_n na nb i at0 out_xs && hasSh1 (Sh.int IntKind.i64) (((span_sweep_I_l0_v1 l out_n na nb i at0 out_xs).getD (span_sweep_I_l0_v11 out_n) AV.top).cells.getD (1 : Nat) AV.top)) (br ((((span_sweep_I_l0_v1 l out_n na nb i at0 out_xs).getD (span_sweep_I_l0_v11 out_n) AV.top).cells.getD (1 : Nat) AV.top).toInt == at0) (br (span_sweep_I_l0_v4 out_n) (br (span_sweep_I_l0_v0 l out_n na nb i at0 out_xs) (κl (out_n, span_sweep_I_l0_v9 l out_n na nb i at0 out_xs, span_sweep_I_l0_v7 l out_n na nb i at0 out_xs, span_sweep_I_l0_v3 l out_n na nb i at0 out_xs, ((l.getD (span_sweep_I_l0_v3 l out_n na nb i at0 out_xs).toNat AV.top).cells.getD (0 : Nat) AV.top).toInt, (span_sweep_I_l0_v1 l out_n na nb i at0 out_xs).set (span_sweep_I_l0_v11 out_n) (AV.agg (List.take (1 : Nat) ((span_sweep_I_l0_v1 l out_n na nb i at0 out_xs).getD (span_sweep_I_l0_v11 out_n) AV.top).cells ++ [AV.int IntKind.i64 ((l.getD (span_sweep_I_l0_v3 l out_n na nb i at0 out_xs).toNat AV.top).cells.getD (0 : Nat) AV.top).toInt] ++ List.drop (2 : Nat) ((span_sweep_I_l0_v1 l out_n na nb i at0 out_xs).getD (span_sweep_I_l0_v11 out_n) AV.top).cells)))) (δ)) (δ)) (br (out_n == (span_sweep_I_l0_v1 l out_n na nb i at0 out_xs).length && (decide ((out_n + (1 : Nat)) * (16 : Nat) ≤ (140737488355328 : Nat)) && decide (out_n + (1 : Nat) ≤ (4611686018427387904 : Nat)))) (κl (out_n + (1 : Nat), span_sweep_I_l0_v9 l out_n na nb i at0 out_xs, span_sweep_I_l0_v7 l out_n na nb i at0 out_xs, span_sweep_I_l0_v3 l out_n na nb i at0 out_xs, ((l.getD (span_sweep_I_l0_v3 l out_n na nb i at0 out_xs).toNat AV.top).cells.getD (0 : Nat) AV.top).toInt, span_sweep_I_l0_v1 l out_n na nb i at0 out_xs ++ [AV.agg [AV.int IntKind.i64 at0, AV.int IntKind.i64 ((l.getD (span_sweep_I_l0_v3 l out_n na nb i at0 out_xs).toNat AV.top).cells.getD (0 : Nat) AV.top).toInt]])) (δ))) (δ)) (δ)) (br (out_n == (span_sweep_I_l0_v1 l out_n na nb i at0 out_xs).length && (decide ((out_n + (1 : Nat)) * (16 : Nat) ≤ (140737488355328 : Nat)) && decide (out_n + (1 : Nat) ≤ (4611686018427387904 : Nat)))) (κl (out_n + (1 : Nat), span_sweep_I_l0_v9 l out_n na nb i at0 out_xs, span_sweep_I_l0_v7 l out_n na nb i at0 out_xs, span_sweep_I_l0_v3 l out_n na nb i at0 out_xs, ((l.getD (span_sweep_I_l0_v3 l out_n na nb i at0 out_xs).toNat AV.top).cells.getD (0 : Nat) AV.top).toInt, span_sweep_I_l0_v1 l out_n na nb i at0 out_xs ++ [AV.agg [AV.int IntKind.i64 at0, AV.int IntKind.i64 ((l.getD (span_sweep_I_l0_v3 l out_n na nb i at0 out_xs).toNat AV.top).cells.getD (0 : Nat) AV.top).toInt]])) (δ))) (κl (out_n, span_sweep_I_l0_v9 l out_n na nb i at0 out_xs, span_sweep_I_l0_v7 l out_n na nb i at0 out_xs, span_sweep_I_l0_v3 l out_n na nb i at0 out_xs, ((l.getD (span_sweep_I_l0_v3 l out_n na nb i at0 out_xs).toNat AV.top).cells.getD (0 : Nat) AV.top).toInt, span_sweep_I_l0_v1 l out_n na nb i at0 out_xs))) (δ)) (δ)) (br (span_sweep_I_l0_v2 l out_n na nb i at0 out_xs) (br (decide ((↑out_n : Int) > (0 : Int))) (br (span_sweep_I_l0_v4 out_n) (br (span_sweep_I_l0_v0 l out_n na nb i at0 out_xs && hasSh1 (Sh.int IntKind.i64) (((span_sweep_I_l0_v1 l out_n na nb i at0 out_xs).getD (span_sweep_I_l0_v11 out_n) AV.top).cells.getD (1 : Nat) AV.top)) (br ((((span_sweep_I_l0_v1 l out_n na nb i at0 out_xs).getD (span_sweep_I_l0_v11 out_n) AV.top).cells.getD (1 : Nat) AV.top).toInt == at0) (br (span_sweep_I_l0_v4 out_n) (br (span_sweep_I_l0_v0 l out_n na nb i at0 out_xs) (κl (out_n, span_sweep_I_l0_v9 l out_n na nb i at0 out_xs, span_sweep_I_l0_v7 l out_n na nb i at0 out_xs, span_sweep_I_l0_v3 l out_n na nb i at0 out_xs, (1099511627776 : Int), (span_sweep_I_l0_v1 l out_n na nb i at0 out_xs).set (span_sweep_I_l0_v11 out_n) (AV.agg (List.take (1 : Nat) ((span_sweep_I_l0_v1 l out_n na nb i at0 out_xs).getD (span_sweep_I_l0_v11 out_n) AV.top).cells ++ [AV.int IntKind.i64 (1099511627776 : Int)] ++ List.drop (2 : Nat) ((span_sweep_I_l0_v1 l out_n na nb i at0 out_xs).getD (span_sweep_I_l0_v11 out_n) AV.top).cells)))) (δ)) (δ)) (br (out_n == (span_sweep_I_l0_v1 l out_n na nb i at0 out_xs).length && (decide ((out_n + (1 : Nat)) * (16 : Nat) ≤ (140737488355328 : Nat)) && decide (out_n + (1 : Nat) ≤ (4611686018427387904 : Nat)))) (κl (out_n + (1 : Nat), span_sweep_I_l0_v9 l out_n na nb i at0 out_xs, span_sweep_I_l0_v7 l out_n na nb i at0 out_xs, span_sweep_I_l0_v3 l out_n na nb i at0 out_xs, (1099511627776 : Int), span_sweep_I_l0_v1 l out_n na nb i at0 out_xs ++ [AV.agg [AV.int IntKind.i64 at0, AV.int IntKind.i64 (1099511627776 : Int)]])) (δ))) (δ)) (δ)) (br (out_n == (span_sweep_I_l0_v1 l out_n na nb i at0 out_xs).length && (decide ((out_n + (1 : Nat)) * (16 : Nat) ≤ (140737488355328 : Nat)) && decide (out_n + (1 : Nat) ≤ (4611686018427387904 : Nat)))) (κl (out_n + (1 : Nat), span_sweep_I_l0_v9 l out_n na nb i at0 out_xs, span_sweep_I_l0_v7 l out_n na nb i at0 out_xs, span_sweep_I_l0_v3 l out_n na nb i at0 out_xs, (1099511627776 : Int), span_sweep_I_l0_v1 l out_n na nb i at0 out_xs ++ [AV.agg [AV.int IntKind.i64 at0, AV.int IntKind.i64 (1099511627776 : Int)]])) (δ))) (κl (out_n, span_sweep_I_l0_v9 l out_n na nb i at0 out_xs, span_sweep_I_l0_v7 l out_n na nb i at0 out_xs, span_sweep_I_l0_v3 l out_n na nb i at0 out_xs, (1099511627776 : Int), span_sweep_I_l0_v1 l out_n na nb i at0 out_xs)))) (δ)) (κr (out_n, out_xs))
noncomputable def span_sweep_I_l0_step (l : List AV) : (Nat × Int × Int × Int × Int × List AV) → Option ((Nat × Int × Int × Int × Int × List AV) ⊕ (Nat × List AV)) := fun (out_n, na, nb, i, at0, out_xs) => span_sweep_I_l0_t l out_n na nb i at0 out_xs none (fun s => some (.inl s)) (fun p => some (.inr p))
noncomputable def span_sweep_I_l0_L (l : List AV) : (Nat × Int × Int × Int × Int × List AV) → List AV × List Box := fun (out_n, na, nb, i, at0, out_xs) => ([AV.func (28 : Nat) [], AV.list (3 : Nat) l, AV.osl 0 0 0 out_n, AV.int IntKind.i64 na, AV.int IntKind.i64 nb, AV.int IntKind.i64 i, AV.int IntKind.i64 at0], [⟨0, (2 : Nat), (27 : Nat), out_xs, false, true⟩])
noncomputable def span_sweep_I_l0_out (l : List AV) : (Nat × List AV) → LR := fun p => (.leaf (Exit.exit (0 : Nat)) [AV.osl 0 0 0 p.1] [⟨0, (2 : Nat), (27 : Nat), p.2, false, true⟩])
noncomputable abbrev span_sweep_I_l0_X (vals : List AV) (H : List Box) := XR Tryd.prog span_sweep_I_E1 [2, 7, 8, 9, 10, 11, 12] [8] [(8, 2, 27)] (loopAt Tryd.f27 0) vals H
theorem span_sweep_I_l0_r (l : List AV) (s : Nat × Int × Int × Int × Int × List AV) : Enc (encR (span_sweep_I_l0_L l) (span_sweep_I_l0_out l)) (span_sweep_I_l0_step l s) (span_sweep_I_l0_X (span_sweep_I_l0_L l s).1 (span_sweep_I_l0_L l s).2) := by
  obtain ⟨out_n, na, nb, i, at0, out_xs⟩ := s
  have h : span_sweep_I_l0_X (span_sweep_I_l0_L l (out_n, na, nb, i, at0, out_xs)).1 (span_sweep_I_l0_L l (out_n, na, nb, i, at0, out_xs)).2 = span_sweep_I_l0_t l out_n na nb i at0 out_xs none (fun s => some (encR (span_sweep_I_l0_L l) (span_sweep_I_l0_out l) (.inl s))) (fun p => some (encR (span_sweep_I_l0_L l) (span_sweep_I_l0_out l) (.inr p))) := by kernel_rfl
  rw [h]; unfold span_sweep_I_l0_step span_sweep_I_l0_t; repeat' (first | exact Enc.none | exact Enc.some rfl | refine Enc.br ?_ ?_)
noncomputable def span_sweep_I_l0_lp : Lp := lpOf [2, 7, 8, 9, 10, 11, 12] [8] [(8, 2, 27)] (pCons (pFunc (28 : Nat) pNil) (pCons (pList (3 : Nat) pAny) (pCons (pOsl (0 : Nat) (0 : Nat) (0 : Nat)) (pCons (pInt IntKind.i64) (pCons (pInt IntKind.i64) (pCons (pInt IntKind.i64) (pCons (pInt IntKind.i64) pNil))))))) (pCons (pBox (0 : Nat) (2 : Nat) (27 : Nat) false true pAny) pNil) fun (_, (l, (out_n, (na, (nb, (i, (at0, _))))))) (out_xs, _) => ((Iter (span_sweep_I_l0_step l) (out_n, na, nb, i, at0, out_xs)).isSome, span_sweep_I_l0_out l ((Iter (span_sweep_I_l0_step l) (out_n, na, nb, i, at0, out_xs)).getD (0, [])))
theorem span_sweep_I_l0_lok : LoopOk Tryd.prog (ITryd.at span_sweep_I_E1.pin) span_sweep_I_E1.nt (loopAt Tryd.f27 0) span_sweep_I_l0_lp := lok_of fun vv bb rr hh => by
  obtain ⟨_, ⟨l, ⟨out_n, ⟨na, ⟨nb, ⟨i, ⟨at0, _⟩⟩⟩⟩⟩⟩⟩ := vv
  obtain ⟨out_xs, _⟩ := bb
  obtain ⟨hh1, rfl⟩ := Prod.mk.inj hh
  exact loop_of_XR mxTryd (inv0Ok Tryd.prog _) rfl span_sweep_I_E1_ok span_sweep_I_E1_lk27_0 (span_sweep_I_l0_L l) (span_sweep_I_l0_out l) (fun p => by simp only [span_sweep_I_l0_out, LR.eval]; first | (simp; done) | (repeat' split <;> simp)) (span_sweep_I_l0_r l) (s := (out_n, na, nb, i, at0, out_xs)) (getD_of_isSome hh1)


/-- The environment of bitemporal/span.sweep: its loops so far. -/

noncomputable def span_sweep_I_E2 : Env := EKC1_3.fn 92 0 (lsOf []) (lpsOf [(6, span_sweep_I_l1_lp), (5, span_sweep_I_l0_lp)])

theorem span_sweep_I_E2_ok : OrcOk Tryd.prog (ITryd.at 0) span_sweep_I_E2 := EKC1_3_ok.fn

theorem span_sweep_I_E2_lk27 : LoOk Tryd.prog (ITryd.at span_sweep_I_E2.pin) span_sweep_I_E2 (Tryd.f27.body.getD .skip) := loOk_all (ls := [loopAt Tryd.f27 0, loopAt Tryd.f27 1]) (by kernel_rfl) (fun l hl lp hs => by
  simp only [List.mem_cons, List.not_mem_nil, or_false] at hl
  rcases hl with rfl | rfl
  · rw [show span_sweep_I_E2.lp (codeId (loopAt Tryd.f27 0)) = some span_sweep_I_l0_lp by kernel_rfl] at hs
    simp only [Option.some.injEq] at hs; subst hs; exact span_sweep_I_l0_lok
  · rw [show span_sweep_I_E2.lp (codeId (loopAt Tryd.f27 1)) = some span_sweep_I_l1_lp by kernel_rfl] at hs
    simp only [Option.some.injEq] at hs; subst hs; exact span_sweep_I_l1_lok)

/- 7 nodes -/
noncomputable def span_sweep_I_v3 (a : List AV) (b : List AV) : Option (Nat × List AV) := Iter (span_sweep_I_l0_step ((span_edges a b).getD [])) ((0 : Nat), (0 : Int), (0 : Int), (0 : Int), (0 : Int), [])
noncomputable def span_sweep_I_v2 (a : List AV) (b : List AV) : Nat × List AV := (span_sweep_I_v3 a b).getD ((0 : Nat), [])
noncomputable def span_sweep_I_v0 (a : List AV) (b : List AV) : List AV := (span_sweep_I_v2 a b).snd
noncomputable def span_sweep_I_v1 (a : List AV) (b : List AV) : Nat := (span_sweep_I_v2 a b).fst
noncomputable def span_sweep_I_t {T : Type} (a : List AV) (b : List AV) (δ : T) (κ : List AV → T) : T := br ((span_edges a b).isSome) (br ((span_sweep_I_v3 a b).isSome) (br (decide ((0 : Nat) + span_sweep_I_v1 a b ≤ (span_sweep_I_v0 a b).length) && true) (κ (List.take (span_sweep_I_v1 a b) (List.drop (0 : Nat) (span_sweep_I_v0 a b)))) (δ)) (δ)) (δ)
noncomputable def span_sweep_I (a : List AV) (b : List AV) : Option (List AV) := span_sweep_I_t a b none some
theorem span_sweep_I_x (a : List AV) (b : List AV) : Enc (fun (p : List AV) => ((AV.list (2 : Nat) p) : AV)) (span_sweep_I a b) (XF Tryd.prog span_sweep_I_E2 Tryd.f27 (Tryd.f27.body.getD .skip) [AV.list (2 : Nat) a, AV.list (2 : Nat) b, AV.func (28 : FuncId) []]) := by
  have h : XF Tryd.prog span_sweep_I_E2 Tryd.f27 (Tryd.f27.body.getD .skip) [AV.list (2 : Nat) a, AV.list (2 : Nat) b, AV.func (28 : FuncId) []] = span_sweep_I_t a b none (fun (p : List AV) => some ((AV.list (2 : Nat) p) : AV)) := by kernel_rfl
  rw [h]; unfold span_sweep_I span_sweep_I_t; repeat' (first | exact Enc.none | exact Enc.some rfl | refine Enc.br ?_ ?_)
noncomputable def span_sweep_I_o : List AV → Option (Bool × AV) := ocOf (sCons (sList (2 : Nat) pAny) (sCons (sList (2 : Nat) pAny) (sCons (sEq (pFunc (28 : FuncId) pNil)) sNil))) fun (a, (b, (_, _))) => ((span_sweep_I a b).isSome, (AV.list (2 : Nat) ((span_sweep_I a b).getD [])))
theorem span_sweep_I_c : OcOk Tryd.prog ITryd 27 (span_sweep_I_o) := ocOk_of fun vv rr hh => by
  obtain ⟨a, ⟨b, ⟨_, _⟩⟩⟩ := vv
  obtain ⟨hh1, hh2⟩ := Prod.mk.inj hh
  refine good_pin (p := span_sweep_I_E2.pin) (good_XF mxTryd (inv0Ok Tryd.prog _) rfl span_sweep_I_E2_ok Tryd.func27 rfl (by kernel_rfl) span_sweep_I_E2_lk27 ((span_sweep_I_x _ _ _ (getD_of_isSome (d := []) hh1)).trans ?_))
  exact congrArg some hh2


noncomputable def EKC1_4 : Env := EKC1_3.with 27 span_sweep_I_o

theorem EKC1_4_ok : OrcOk Tryd.prog ITryd EKC1_4 := EKC1_3_ok.with span_sweep_I_c

/-- The environment of bitemporal/span.sweep: its loops so far. -/

noncomputable def span_sweep_S_E0 : Env := EKC1_4.fn 92 0 (lsOf []) (lpsOf [])

theorem span_sweep_S_E0_ok : OrcOk Tryd.prog (ITryd.at 0) span_sweep_S_E0 := EKC1_4_ok.fn

theorem span_sweep_S_E0_lk27_1 : LoOk Tryd.prog (ITryd.at span_sweep_S_E0.pin) span_sweep_S_E0 (loopAt Tryd.f27 1) := loOk_nil (by kernel_rfl)

/- 17 nodes -/
noncomputable def span_sweep_S_l1_v0 (l : List AV) (i : Int) : Bool := decide ((0 : Int) ≤ i) && decide (i < (↑l.length : Int))
noncomputable def span_sweep_S_l1_t {T : Type} (l : List AV) (out_n : Nat) (at0 : Int) (na : Int) (nb : Int) (i : Int) (out_xs : List AV) (δ : T) (κl : (Int × Int × Int × List AV) → T) (κr : (Int × Int × Int × List AV) → T) : T := br (decide (i < (↑l.length : Int))) (br (span_sweep_S_l1_v0 l i) (br (decide (i.toNat < l.length) && hasSh1 (Sh.int IntKind.i64) ((l.getD i.toNat AV.top).cells.getD (0 : Nat) AV.top)) (br (((l.getD i.toNat AV.top).cells.getD (0 : Nat) AV.top).toInt == at0) (br (span_sweep_S_l1_v0 l i) (br (decide (i.toNat < l.length) && hasSh1 (Sh.int IntKind.i64) ((l.getD i.toNat AV.top).cells.getD (1 : Nat) AV.top)) (br (span_sweep_S_l1_v0 l i) (br (decide (i.toNat < l.length) && hasSh1 (Sh.int IntKind.i64) ((l.getD i.toNat AV.top).cells.getD (2 : Nat) AV.top)) (κl (IntKind.i64.wrap (na + ((l.getD i.toNat AV.top).cells.getD (1 : Nat) AV.top).toInt), IntKind.i64.wrap (nb + ((l.getD i.toNat AV.top).cells.getD (2 : Nat) AV.top).toInt), IntKind.i64.wrap (i + (1 : Int)), out_xs)) (δ)) (δ)) (δ)) (δ)) (κr (na, nb, i, out_xs))) (δ)) (δ)) (κr (na, nb, i, out_xs))
noncomputable def span_sweep_S_l1_step (l : List AV) (out_n : Nat) (at0 : Int) : (Int × Int × Int × List AV) → Option ((Int × Int × Int × List AV) ⊕ (Int × Int × Int × List AV)) := fun (na, nb, i, out_xs) => span_sweep_S_l1_t l out_n at0 na nb i out_xs none (fun s => some (.inl s)) (fun p => some (.inr p))
noncomputable def span_sweep_S_l1_L (l : List AV) (out_n : Nat) (at0 : Int) : (Int × Int × Int × List AV) → List AV × List Box := fun (na, nb, i, out_xs) => ([AV.func (43 : Nat) [], AV.list (3 : Nat) l, AV.osl 0 0 0 out_n, AV.int IntKind.i64 na, AV.int IntKind.i64 nb, AV.int IntKind.i64 i, AV.int IntKind.i64 at0], [⟨0, (2 : Nat), (27 : Nat), out_xs, false, true⟩])
noncomputable def span_sweep_S_l1_out (l : List AV) (out_n : Nat) (at0 : Int) : (Int × Int × Int × List AV) → LR := fun p => (.leaf (Exit.exit (2 : Nat)) [AV.func (43 : Nat) [], AV.list (3 : Nat) l, AV.osl 0 0 0 out_n, AV.int IntKind.i64 p.1, AV.int IntKind.i64 p.2.1, AV.int IntKind.i64 p.2.2.1, AV.int IntKind.i64 at0] [⟨0, (2 : Nat), (27 : Nat), p.2.2.2, false, true⟩])
noncomputable abbrev span_sweep_S_l1_X (vals : List AV) (H : List Box) := XR Tryd.prog span_sweep_S_E0 [2, 7, 8, 9, 10, 11, 12] [2, 7, 8, 9, 10, 11, 12] [(8, 2, 27)] (loopAt Tryd.f27 1) vals H
theorem span_sweep_S_l1_r (l : List AV) (out_n : Nat) (at0 : Int) (s : Int × Int × Int × List AV) : Enc (encR (span_sweep_S_l1_L l out_n at0) (span_sweep_S_l1_out l out_n at0)) (span_sweep_S_l1_step l out_n at0 s) (span_sweep_S_l1_X (span_sweep_S_l1_L l out_n at0 s).1 (span_sweep_S_l1_L l out_n at0 s).2) := by
  obtain ⟨na, nb, i, out_xs⟩ := s
  have h : span_sweep_S_l1_X (span_sweep_S_l1_L l out_n at0 (na, nb, i, out_xs)).1 (span_sweep_S_l1_L l out_n at0 (na, nb, i, out_xs)).2 = span_sweep_S_l1_t l out_n at0 na nb i out_xs none (fun s => some (encR (span_sweep_S_l1_L l out_n at0) (span_sweep_S_l1_out l out_n at0) (.inl s))) (fun p => some (encR (span_sweep_S_l1_L l out_n at0) (span_sweep_S_l1_out l out_n at0) (.inr p))) := by kernel_rfl
  rw [h]; unfold span_sweep_S_l1_step span_sweep_S_l1_t; repeat' (first | exact Enc.none | exact Enc.some rfl | refine Enc.br ?_ ?_)
noncomputable def span_sweep_S_l1_lp : Lp := lpOf [2, 7, 8, 9, 10, 11, 12] [2, 7, 8, 9, 10, 11, 12] [(8, 2, 27)] (pCons (pFunc (43 : Nat) pNil) (pCons (pList (3 : Nat) pAny) (pCons (pOsl (0 : Nat) (0 : Nat) (0 : Nat)) (pCons (pInt IntKind.i64) (pCons (pInt IntKind.i64) (pCons (pInt IntKind.i64) (pCons (pInt IntKind.i64) pNil))))))) (pCons (pBox (0 : Nat) (2 : Nat) (27 : Nat) false true pAny) pNil) fun (_, (l, (out_n, (na, (nb, (i, (at0, _))))))) (out_xs, _) => ((Iter (span_sweep_S_l1_step l out_n at0) (na, nb, i, out_xs)).isSome, span_sweep_S_l1_out l out_n at0 ((Iter (span_sweep_S_l1_step l out_n at0) (na, nb, i, out_xs)).getD (0, 0, 0, [])))
theorem span_sweep_S_l1_lok : LoopOk Tryd.prog (ITryd.at span_sweep_S_E0.pin) span_sweep_S_E0.nt (loopAt Tryd.f27 1) span_sweep_S_l1_lp := lok_of fun vv bb rr hh => by
  obtain ⟨_, ⟨l, ⟨out_n, ⟨na, ⟨nb, ⟨i, ⟨at0, _⟩⟩⟩⟩⟩⟩⟩ := vv
  obtain ⟨out_xs, _⟩ := bb
  obtain ⟨hh1, rfl⟩ := Prod.mk.inj hh
  exact loop_of_XR mxTryd (inv0Ok Tryd.prog _) rfl span_sweep_S_E0_ok span_sweep_S_E0_lk27_1 (span_sweep_S_l1_L l out_n at0) (span_sweep_S_l1_out l out_n at0) (fun p => by simp only [span_sweep_S_l1_out, LR.eval]; first | (simp; done) | (repeat' split <;> simp)) (span_sweep_S_l1_r l out_n at0) (s := (na, nb, i, out_xs)) (getD_of_isSome hh1)


/-- The environment of bitemporal/span.sweep: its loops so far. -/

noncomputable def span_sweep_S_E1 : Env := EKC1_4.fn 92 0 (lsOf []) (lpsOf [(6, span_sweep_S_l1_lp)])

theorem span_sweep_S_E1_ok : OrcOk Tryd.prog (ITryd.at 0) span_sweep_S_E1 := EKC1_4_ok.fn

theorem span_sweep_S_E1_lk27_0 : LoOk Tryd.prog (ITryd.at span_sweep_S_E1.pin) span_sweep_S_E1 (loopAt Tryd.f27 0) := loOk_all (ls := [loopAt Tryd.f27 1]) (by kernel_rfl) (fun l hl lp hs => by
  simp only [List.mem_cons, List.not_mem_nil, or_false] at hl
  rcases hl with rfl
  · rw [show span_sweep_S_E1.lp (codeId (loopAt Tryd.f27 1)) = some span_sweep_S_l1_lp by kernel_rfl] at hs
    simp only [Option.some.injEq] at hs; subst hs; exact span_sweep_S_l1_lok)

/- 47 nodes -/
noncomputable def span_sweep_S_l0_v4 (out_n : Nat) : Bool := decide ((0 : Int) ≤ IntKind.i64.wrap ((↑out_n : Int) - (1 : Int))) && decide (IntKind.i64.wrap ((↑out_n : Int) - (1 : Int)) < (↑out_n : Int))
noncomputable def span_sweep_S_l0_v10 (l : List AV) (out_n : Nat) (na : Int) (nb : Int) (i : Int) (at0 : Int) (out_xs : List AV) : Int × Int × Int × List AV := (Iter (span_sweep_S_l1_step l out_n at0) (na, nb, i, out_xs)).getD ((0 : Int), (0 : Int), (0 : Int), [])
noncomputable def span_sweep_S_l0_v11 (out_n : Nat) : Nat := (0 : Nat) + (IntKind.i64.wrap ((↑out_n : Int) - (1 : Int))).toNat
noncomputable def span_sweep_S_l0_v8 (l : List AV) (out_n : Nat) (na : Int) (nb : Int) (i : Int) (at0 : Int) (out_xs : List AV) : Int := (span_sweep_S_l0_v10 l out_n na nb i at0 out_xs).fst
noncomputable def span_sweep_S_l0_v9 (l : List AV) (out_n : Nat) (na : Int) (nb : Int) (i : Int) (at0 : Int) (out_xs : List AV) : Int × Int × List AV := (span_sweep_S_l0_v10 l out_n na nb i at0 out_xs).snd
noncomputable def span_sweep_S_l0_v6 (l : List AV) (out_n : Nat) (na : Int) (nb : Int) (i : Int) (at0 : Int) (out_xs : List AV) : Int := (span_sweep_S_l0_v9 l out_n na nb i at0 out_xs).fst
noncomputable def span_sweep_S_l0_v7 (l : List AV) (out_n : Nat) (na : Int) (nb : Int) (i : Int) (at0 : Int) (out_xs : List AV) : Int × List AV := (span_sweep_S_l0_v9 l out_n na nb i at0 out_xs).snd
noncomputable def span_sweep_S_l0_v1 (l : List AV) (out_n : Nat) (na : Int) (nb : Int) (i : Int) (at0 : Int) (out_xs : List AV) : List AV := (span_sweep_S_l0_v7 l out_n na nb i at0 out_xs).snd
noncomputable def span_sweep_S_l0_v2 (l : List AV) (out_n : Nat) (na : Int) (nb : Int) (i : Int) (at0 : Int) (out_xs : List AV) : Bool := span_Subtract_1 (decide (span_sweep_S_l0_v8 l out_n na nb i at0 out_xs > (0 : Int))) (decide (span_sweep_S_l0_v6 l out_n na nb i at0 out_xs > (0 : Int)))
noncomputable def span_sweep_S_l0_v3 (l : List AV) (out_n : Nat) (na : Int) (nb : Int) (i : Int) (at0 : Int) (out_xs : List AV) : Int := (span_sweep_S_l0_v7 l out_n na nb i at0 out_xs).fst
noncomputable def span_sweep_S_l0_v0 (l : List AV) (out_n : Nat) (na : Int) (nb : Int) (i : Int) (at0 : Int) (out_xs : List AV) : Bool := decide (span_sweep_S_l0_v11 out_n < (span_sweep_S_l0_v1 l out_n na nb i at0 out_xs).length)
noncomputable def span_sweep_S_l0_v5 (l : List AV) (out_n : Nat) (na : Int) (nb : Int) (i : Int) (at0 : Int) (out_xs : List AV) : Bool := decide (span_sweep_S_l0_v3 l out_n na nb i at0 out_xs < (↑l.length : Int))
noncomputable def span_sweep_S_l0_t {T : Type} (l : List AV) (out_n : Nat) (na : Int) (nb : Int) (i : Int) (at0 : Int) (out_xs : List AV) (δ : T) (κl : (Nat × Int × Int × Int × Int × List AV) → T) (κr : (Nat × List AV) → T) : T := br (decide (at0 < (1099511627776 : Int))) (br ((Iter (span_sweep_S_l1_step l out_n at0) (na, nb, i, out_xs)).isSome) (br (span_sweep_S_l0_v5 l out_n na nb i at0 out_xs) (br (decide ((0 : Int) ≤ span_sweep_S_l0_v3 l out_n na nb i at0 out_xs) && span_sweep_S_l0_v5 l out_n na nb i at0 out_xs) (br (decide ((span_sweep_S_l0_v3 l out_n na nb i at0 out_xs).toNat < l.length) && hasSh1 (Sh.int IntKind.i64) ((l.getD (span_sweep_S_l0_v3 l out_n na nb i at0 out_xs).toNat AV.top).cells.getD (0 : Nat) AV.top)) (br (span_sweep_S_l0_v2 l out_n na nb i at0 out_xs) (br (decide ((↑out_n : Int) > (0 : Int))) (br (span_sweep_S_l0_v4 out_n) (br (span_sweep_S_l0_v0 l out_n na nb i at0 out_xs && hasSh1 (Sh.int IntKind.i64) (((span_sweep_S_l0_v1 l out_n na nb i at0 out_xs).getD (span_sweep_S_l0_v11 out_n) AV.top).cells.getD (1 : Nat) AV.top)) (br ((((span_sweep_S_l0_v1 l out_n na nb i at0 out_xs).getD (span_sweep_S_l0_v11 out_n) AV.top).cells.getD (1 : Nat) AV.top).toInt == at0) (br (span_sweep_S_l0_v4 out_n) (br (span_sweep_S_l0_v0 l out_n na nb i at0 out_xs) (κl (out_n, span_sweep_S_l0_v8 l out_n na nb i at0 out_xs, span_sweep_S_l0_v6 l out_n na nb i at0 out_xs, span_sweep_S_l0_v3 l out_n na nb i at0 out_xs, ((l.getD (span_sweep_S_l0_v3 l out_n na nb i at0 out_xs).toNat AV.top).cells.getD (0 : Nat) AV.top).toInt, (span_sweep_S_l0_v1 l out_n na nb i at0 out_xs).set (span_sweep_S_l0_v11 out_n) (AV.agg (List.take (1 : Nat) ((span_sweep_S_l0_v1 l out_n na nb i at0 out_xs).getD (span_sweep_S_l0_v11 out_n) AV.top).cells ++ [AV.int IntKind.i64 ((l.getD (span_sweep_S_l0_v3 l out_n na nb i at0 out_xs).toNat AV.top).cells.getD (0 : Nat) AV.top).toInt] ++ List.drop (2 : Nat) ((span_sweep_S_l0_v1 l out_n na nb i at0 out_xs).getD (span_sweep_S_l0_v11 out_n) AV.top).cells)))) (δ)) (δ)) (br (out_n == (span_sweep_S_l0_v1 l out_n na nb i at0 out_xs).length && (decide ((out_n + (1 : Nat)) * (16 : Nat) ≤ (140737488355328 : Nat)) && decide (out_n + (1 : Nat) ≤ (4611686018427387904 : Nat)))) (κl (out_n + (1 : Nat), span_sweep_S_l0_v8 l out_n na nb i at0 out_xs, span_sweep_S_l0_v6 l out_n na nb i at0 out_xs, span_sweep_S_l0_v3 l out_n na nb i at0 out_xs, ((l.getD (span_sweep_S_l0_v3 l out_n na nb i at0 out_xs).toNat AV.top).cells.getD (0 : Nat) AV.top).toInt, span_sweep_S_l0_v1 l out_n na nb i at0 out_xs ++ [AV.agg [AV.int IntKind.i64 at0, AV.int IntKind.i64 ((l.getD (span_sweep_S_l0_v3 l out_n na nb i at0 out_xs).toNat AV.top).cells.getD (0 : Nat) AV.top).toInt]])) (δ))) (δ)) (δ)) (br (out_n == (span_sweep_S_l0_v1 l out_n na nb i at0 out_xs).length && (decide ((out_n + (1 : Nat)) * (16 : Nat) ≤ (140737488355328 : Nat)) && decide (out_n + (1 : Nat) ≤ (4611686018427387904 : Nat)))) (κl (out_n + (1 : Nat), span_sweep_S_l0_v8 l out_n na nb i at0 out_xs, span_sweep_S_l0_v6 l out_n na nb i at0 out_xs, span_sweep_S_l0_v3 l out_n na nb i at0 out_xs, ((l.getD (span_sweep_S_l0_v3 l out_n na nb i at0 out_xs).toNat AV.top).cells.getD (0 : Nat) AV.top).toInt, span_sweep_S_l0_v1 l out_n na nb i at0 out_xs ++ [AV.agg [AV.int IntKind.i64 at0, AV.int IntKind.i64 ((l.getD (span_sweep_S_l0_v3 l out_n na nb i at0 out_xs).toNat AV.top).cells.getD (0 : Nat) AV.top).toInt]])) (δ))) (κl (out_n, span_sweep_S_l0_v8 l out_n na nb i at0 out_xs, span_sweep_S_l0_v6 l out_n na nb i at0 out_xs, span_sweep_S_l0_v3 l out_n na nb i at0 out_xs, ((l.getD (span_sweep_S_l0_v3 l out_n na nb i at0 out_xs).toNat AV.top).cells.getD (0 : Nat) AV.top).toInt, span_sweep_S_l0_v1 l out_n na nb i at0 out_xs))) (δ)) (δ)) (br (span_sweep_S_l0_v2 l out_n na nb i at0 out_xs) (br (decide ((↑out_n : Int) > (0 : Int))) (br (span_sweep_S_l0_v4 out_n) (br (span_sweep_S_l0_v0 l out_n na nb i at0 out_xs && hasSh1 (Sh.int IntKind.i64) (((span_sweep_S_l0_v1 l out_n na nb i at0 out_xs).getD (span_sweep_S_l0_v11 out_n) AV.top).cells.getD (1 : Nat) AV.top)) (br ((((span_sweep_S_l0_v1 l out_n na nb i at0 out_xs).getD (span_sweep_S_l0_v11 out_n) AV.top).cells.getD (1 : Nat) AV.top).toInt == at0) (br (span_sweep_S_l0_v4 out_n) (br (span_sweep_S_l0_v0 l out_n na nb i at0 out_xs) (κl (out_n, span_sweep_S_l0_v8 l out_n na nb i at0 out_xs, span_sweep_S_l0_v6 l out_n na nb i at0 out_xs, span_sweep_S_l0_v3 l out_n na nb i at0 out_xs, (1099511627776 : Int), (span_sweep_S_l0_v1 l out_n na nb i at0 out_xs).set (span_sweep_S_l0_v11 out_n) (AV.agg (List.take (1 : Nat) ((span_sweep_S_l0_v1 l out_n na nb i at0 out_xs).getD (span_sweep_S_l0_v11 out_n) AV.top).cells ++ [AV.int IntKind.i64 (1099511627776 : Int)] ++ List.drop (2 : Nat) ((span_sweep_S_l0_v1 l out_n na nb i at0 out_xs).getD (span_sweep_S_l0_v11 out_n) AV.top).cells)))) (δ)) (δ)) (br (out_n == (span_sweep_S_l0_v1 l out_n na nb i at0 out_xs).length && (decide ((out_n + (1 : Nat)) * (16 : Nat) ≤ (140737488355328 : Nat)) && decide (out_n + (1 : Nat) ≤ (4611686018427387904 : Nat)))) (κl (out_n + (1 : Nat), span_sweep_S_l0_v8 l out_n na nb i at0 out_xs, span_sweep_S_l0_v6 l out_n na nb i at0 out_xs, span_sweep_S_l0_v3 l out_n na nb i at0 out_xs, (1099511627776 : Int), span_sweep_S_l0_v1 l out_n na nb i at0 out_xs ++ [AV.agg [AV.int IntKind.i64 at0, AV.int IntKind.i64 (1099511627776 : Int)]])) (δ))) (δ)) (δ)) (br (out_n == (span_sweep_S_l0_v1 l out_n na nb i at0 out_xs).length && (decide ((out_n + (1 : Nat)) * (16 : Nat) ≤ (140737488355328 : Nat)) && decide (out_n + (1 : Nat) ≤ (4611686018427387904 : Nat)))) (κl (out_n + (1 : Nat), span_sweep_S_l0_v8 l out_n na nb i at0 out_xs, span_sweep_S_l0_v6 l out_n na nb i at0 out_xs, span_sweep_S_l0_v3 l out_n na nb i at0 out_xs, (1099511627776 : Int), span_sweep_S_l0_v1 l out_n na nb i at0 out_xs ++ [AV.agg [AV.int IntKind.i64 at0, AV.int IntKind.i64 (1099511627776 : Int)]])) (δ))) (κl (out_n, span_sweep_S_l0_v8 l out_n na nb i at0 out_xs, span_sweep_S_l0_v6 l out_n na nb i at0 out_xs, span_sweep_S_l0_v3 l out_n na nb i at0 out_xs, (1099511627776 : Int), span_sweep_S_l0_v1 l out_n na nb i at0 out_xs)))) (δ)) (κr (out_n, out_xs))
noncomputable def span_sweep_S_l0_step (l : List AV) : (Nat × Int × Int × Int × Int × List AV) → Option ((Nat × Int × Int × Int × Int × List AV) ⊕ (Nat × List AV)) := fun (out_n, na, nb, i, at0, out_xs) => span_sweep_S_l0_t l out_n na nb i at0 out_xs none (fun s => some (.inl s)) (fun p => some (.inr p))
noncomputable def span_sweep_S_l0_L (l : List AV) : (Nat × Int × Int × Int × Int × List AV) → List AV × List Box := fun (out_n, na, nb, i, at0, out_xs) => ([AV.func (43 : Nat) [], AV.list (3 : Nat) l, AV.osl 0 0 0 out_n, AV.int IntKind.i64 na, AV.int IntKind.i64 nb, AV.int IntKind.i64 i, AV.int IntKind.i64 at0], [⟨0, (2 : Nat), (27 : Nat), out_xs, false, true⟩])
noncomputable def span_sweep_S_l0_out (l : List AV) : (Nat × List AV) → LR := fun p => (.leaf (Exit.exit (0 : Nat)) [AV.osl 0 0 0 p.1] [⟨0, (2 : Nat), (27 : Nat), p.2, false, true⟩])
noncomputable abbrev span_sweep_S_l0_X (vals : List AV) (H : List Box) := XR Tryd.prog span_sweep_S_E1 [2, 7, 8, 9, 10, 11, 12] [8] [(8, 2, 27)] (loopAt Tryd.f27 0) vals H
theorem span_sweep_S_l0_r (l : List AV) (s : Nat × Int × Int × Int × Int × List AV) : Enc (encR (span_sweep_S_l0_L l) (span_sweep_S_l0_out l)) (span_sweep_S_l0_step l s) (span_sweep_S_l0_X (span_sweep_S_l0_L l s).1 (span_sweep_S_l0_L l s).2) := by
  obtain ⟨out_n, na, nb, i, at0, out_xs⟩ := s
  have h : span_sweep_S_l0_X (span_sweep_S_l0_L l (out_n, na, nb, i, at0, out_xs)).1 (span_sweep_S_l0_L l (out_n, na, nb, i, at0, out_xs)).2 = span_sweep_S_l0_t l out_n na nb i at0 out_xs none (fun s => some (encR (span_sweep_S_l0_L l) (span_sweep_S_l0_out l) (.inl s))) (fun p => some (encR (span_sweep_S_l0_L l) (span_sweep_S_l0_out l) (.inr p))) := by kernel_rfl
  rw [h]; unfold span_sweep_S_l0_step span_sweep_S_l0_t; repeat' (first | exact Enc.none | exact Enc.some rfl | refine Enc.br ?_ ?_)
noncomputable def span_sweep_S_l0_lp : Lp := lpOf [2, 7, 8, 9, 10, 11, 12] [8] [(8, 2, 27)] (pCons (pFunc (43 : Nat) pNil) (pCons (pList (3 : Nat) pAny) (pCons (pOsl (0 : Nat) (0 : Nat) (0 : Nat)) (pCons (pInt IntKind.i64) (pCons (pInt IntKind.i64) (pCons (pInt IntKind.i64) (pCons (pInt IntKind.i64) pNil))))))) (pCons (pBox (0 : Nat) (2 : Nat) (27 : Nat) false true pAny) pNil) fun (_, (l, (out_n, (na, (nb, (i, (at0, _))))))) (out_xs, _) => ((Iter (span_sweep_S_l0_step l) (out_n, na, nb, i, at0, out_xs)).isSome, span_sweep_S_l0_out l ((Iter (span_sweep_S_l0_step l) (out_n, na, nb, i, at0, out_xs)).getD (0, [])))
theorem span_sweep_S_l0_lok : LoopOk Tryd.prog (ITryd.at span_sweep_S_E1.pin) span_sweep_S_E1.nt (loopAt Tryd.f27 0) span_sweep_S_l0_lp := lok_of fun vv bb rr hh => by
  obtain ⟨_, ⟨l, ⟨out_n, ⟨na, ⟨nb, ⟨i, ⟨at0, _⟩⟩⟩⟩⟩⟩⟩ := vv
  obtain ⟨out_xs, _⟩ := bb
  obtain ⟨hh1, rfl⟩ := Prod.mk.inj hh
  exact loop_of_XR mxTryd (inv0Ok Tryd.prog _) rfl span_sweep_S_E1_ok span_sweep_S_E1_lk27_0 (span_sweep_S_l0_L l) (span_sweep_S_l0_out l) (fun p => by simp only [span_sweep_S_l0_out, LR.eval]; first | (simp; done) | (repeat' split <;> simp)) (span_sweep_S_l0_r l) (s := (out_n, na, nb, i, at0, out_xs)) (getD_of_isSome hh1)


/-- The environment of bitemporal/span.sweep: its loops so far. -/

noncomputable def span_sweep_S_E2 : Env := EKC1_4.fn 92 0 (lsOf []) (lpsOf [(6, span_sweep_S_l1_lp), (5, span_sweep_S_l0_lp)])

theorem span_sweep_S_E2_ok : OrcOk Tryd.prog (ITryd.at 0) span_sweep_S_E2 := EKC1_4_ok.fn

theorem span_sweep_S_E2_lk27 : LoOk Tryd.prog (ITryd.at span_sweep_S_E2.pin) span_sweep_S_E2 (Tryd.f27.body.getD .skip) := loOk_all (ls := [loopAt Tryd.f27 0, loopAt Tryd.f27 1]) (by kernel_rfl) (fun l hl lp hs => by
  simp only [List.mem_cons, List.not_mem_nil, or_false] at hl
  rcases hl with rfl | rfl
  · rw [show span_sweep_S_E2.lp (codeId (loopAt Tryd.f27 0)) = some span_sweep_S_l0_lp by kernel_rfl] at hs
    simp only [Option.some.injEq] at hs; subst hs; exact span_sweep_S_l0_lok
  · rw [show span_sweep_S_E2.lp (codeId (loopAt Tryd.f27 1)) = some span_sweep_S_l1_lp by kernel_rfl] at hs
    simp only [Option.some.injEq] at hs; subst hs; exact span_sweep_S_l1_lok)

/- 7 nodes -/
noncomputable def span_sweep_S_v3 (a : List AV) (b : List AV) : Option (Nat × List AV) := Iter (span_sweep_S_l0_step ((span_edges a b).getD [])) ((0 : Nat), (0 : Int), (0 : Int), (0 : Int), (0 : Int), [])
noncomputable def span_sweep_S_v2 (a : List AV) (b : List AV) : Nat × List AV := (span_sweep_S_v3 a b).getD ((0 : Nat), [])
noncomputable def span_sweep_S_v0 (a : List AV) (b : List AV) : List AV := (span_sweep_S_v2 a b).snd
noncomputable def span_sweep_S_v1 (a : List AV) (b : List AV) : Nat := (span_sweep_S_v2 a b).fst
noncomputable def span_sweep_S_t {T : Type} (a : List AV) (b : List AV) (δ : T) (κ : List AV → T) : T := br ((span_edges a b).isSome) (br ((span_sweep_S_v3 a b).isSome) (br (decide ((0 : Nat) + span_sweep_S_v1 a b ≤ (span_sweep_S_v0 a b).length) && true) (κ (List.take (span_sweep_S_v1 a b) (List.drop (0 : Nat) (span_sweep_S_v0 a b)))) (δ)) (δ)) (δ)
noncomputable def span_sweep_S (a : List AV) (b : List AV) : Option (List AV) := span_sweep_S_t a b none some
theorem span_sweep_S_x (a : List AV) (b : List AV) : Enc (fun (p : List AV) => ((AV.list (2 : Nat) p) : AV)) (span_sweep_S a b) (XF Tryd.prog span_sweep_S_E2 Tryd.f27 (Tryd.f27.body.getD .skip) [AV.list (2 : Nat) a, AV.list (2 : Nat) b, AV.func (43 : FuncId) []]) := by
  have h : XF Tryd.prog span_sweep_S_E2 Tryd.f27 (Tryd.f27.body.getD .skip) [AV.list (2 : Nat) a, AV.list (2 : Nat) b, AV.func (43 : FuncId) []] = span_sweep_S_t a b none (fun (p : List AV) => some ((AV.list (2 : Nat) p) : AV)) := by kernel_rfl
  rw [h]; unfold span_sweep_S span_sweep_S_t; repeat' (first | exact Enc.none | exact Enc.some rfl | refine Enc.br ?_ ?_)
noncomputable def span_sweep_S_o : List AV → Option (Bool × AV) := ocOf (sCons (sList (2 : Nat) pAny) (sCons (sList (2 : Nat) pAny) (sCons (sEq (pFunc (43 : FuncId) pNil)) sNil))) fun (a, (b, (_, _))) => ((span_sweep_S a b).isSome, (AV.list (2 : Nat) ((span_sweep_S a b).getD [])))
theorem span_sweep_S_c : OcOk Tryd.prog ITryd 27 (span_sweep_S_o) := ocOk_of fun vv rr hh => by
  obtain ⟨a, ⟨b, ⟨_, _⟩⟩⟩ := vv
  obtain ⟨hh1, hh2⟩ := Prod.mk.inj hh
  refine good_pin (p := span_sweep_S_E2.pin) (good_XF mxTryd (inv0Ok Tryd.prog _) rfl span_sweep_S_E2_ok Tryd.func27 rfl (by kernel_rfl) span_sweep_S_E2_lk27 ((span_sweep_S_x _ _ _ (getD_of_isSome (d := []) hh1)).trans ?_))
  exact congrArg some hh2


noncomputable def EKC1_5 : Env := EKC1_4.with 27 span_sweep_S_o

theorem EKC1_5_ok : OrcOk Tryd.prog ITryd EKC1_5 := EKC1_4_ok.with span_sweep_S_c

/-- The environment of bitemporal/span.Intersect: its loops so far. -/

noncomputable def span_Intersect_E0 : Env := EKC1_5.fn 8 0 (lsOf []) (lpsOf [])

theorem span_Intersect_E0_ok : OrcOk Tryd.prog (ITryd.at 0) span_Intersect_E0 := EKC1_5_ok.fn

theorem span_Intersect_E0_lk14 : LoOk Tryd.prog (ITryd.at span_Intersect_E0.pin) span_Intersect_E0 (Tryd.f14.body.getD .skip) := loOk_nil (by kernel_rfl)

/- 3 nodes -/
noncomputable def span_Intersect_t {T : Type} (a : List AV) (b : List AV) (δ : T) (κ : List AV → T) : T := br ((span_sweep_I a b).isSome) (κ ((span_sweep_I a b).getD [])) (δ)
noncomputable def span_Intersect (a : List AV) (b : List AV) : Option (List AV) := span_Intersect_t a b none some
theorem span_Intersect_x (a : List AV) (b : List AV) : Enc (fun (p : List AV) => ((AV.list (2 : Nat) p) : AV)) (span_Intersect a b) (XF Tryd.prog span_Intersect_E0 Tryd.f14 (Tryd.f14.body.getD .skip) [AV.list (2 : Nat) a, AV.list (2 : Nat) b]) := by
  have h : XF Tryd.prog span_Intersect_E0 Tryd.f14 (Tryd.f14.body.getD .skip) [AV.list (2 : Nat) a, AV.list (2 : Nat) b] = span_Intersect_t a b none (fun (p : List AV) => some ((AV.list (2 : Nat) p) : AV)) := by kernel_rfl
  rw [h]; unfold span_Intersect span_Intersect_t; repeat' (first | exact Enc.none | exact Enc.some rfl | refine Enc.br ?_ ?_)
noncomputable def span_Intersect_o : List AV → Option (Bool × AV) := ocOf (sCons (sList (2 : Nat) pAny) (sCons (sList (2 : Nat) pAny) sNil)) fun (a, (b, _)) => ((span_Intersect a b).isSome, (AV.list (2 : Nat) ((span_Intersect a b).getD [])))
theorem span_Intersect_c : OcOk Tryd.prog ITryd 14 (span_Intersect_o) := ocOk_of fun vv rr hh => by
  obtain ⟨a, ⟨b, _⟩⟩ := vv
  obtain ⟨hh1, hh2⟩ := Prod.mk.inj hh
  refine good_pin (p := span_Intersect_E0.pin) (good_XF mxTryd (inv0Ok Tryd.prog _) rfl span_Intersect_E0_ok Tryd.func14 rfl (by kernel_rfl) span_Intersect_E0_lk14 ((span_Intersect_x _ _ _ (getD_of_isSome (d := []) hh1)).trans ?_))
  exact congrArg some hh2


noncomputable def EKC1_6 : Env := EKC1_5.with 14 span_Intersect_o

theorem EKC1_6_ok : OrcOk Tryd.prog ITryd EKC1_6 := EKC1_5_ok.with span_Intersect_c

/-- The environment of bitemporal/span.Subtract: its loops so far. -/

noncomputable def span_Subtract_E0 : Env := EKC1_6.fn 8 0 (lsOf []) (lpsOf [])

theorem span_Subtract_E0_ok : OrcOk Tryd.prog (ITryd.at 0) span_Subtract_E0 := EKC1_6_ok.fn

theorem span_Subtract_E0_lk30 : LoOk Tryd.prog (ITryd.at span_Subtract_E0.pin) span_Subtract_E0 (Tryd.f30.body.getD .skip) := loOk_nil (by kernel_rfl)

/- 3 nodes -/
noncomputable def span_Subtract_t {T : Type} (a : List AV) (b : List AV) (δ : T) (κ : List AV → T) : T := br ((span_sweep_S a b).isSome) (κ ((span_sweep_S a b).getD [])) (δ)
noncomputable def span_Subtract (a : List AV) (b : List AV) : Option (List AV) := span_Subtract_t a b none some
theorem span_Subtract_x (a : List AV) (b : List AV) : Enc (fun (p : List AV) => ((AV.list (2 : Nat) p) : AV)) (span_Subtract a b) (XF Tryd.prog span_Subtract_E0 Tryd.f30 (Tryd.f30.body.getD .skip) [AV.list (2 : Nat) a, AV.list (2 : Nat) b]) := by
  have h : XF Tryd.prog span_Subtract_E0 Tryd.f30 (Tryd.f30.body.getD .skip) [AV.list (2 : Nat) a, AV.list (2 : Nat) b] = span_Subtract_t a b none (fun (p : List AV) => some ((AV.list (2 : Nat) p) : AV)) := by kernel_rfl
  rw [h]; unfold span_Subtract span_Subtract_t; repeat' (first | exact Enc.none | exact Enc.some rfl | refine Enc.br ?_ ?_)
noncomputable def span_Subtract_o : List AV → Option (Bool × AV) := ocOf (sCons (sList (2 : Nat) pAny) (sCons (sList (2 : Nat) pAny) sNil)) fun (a, (b, _)) => ((span_Subtract a b).isSome, (AV.list (2 : Nat) ((span_Subtract a b).getD [])))
theorem span_Subtract_c : OcOk Tryd.prog ITryd 30 (span_Subtract_o) := ocOk_of fun vv rr hh => by
  obtain ⟨a, ⟨b, _⟩⟩ := vv
  obtain ⟨hh1, hh2⟩ := Prod.mk.inj hh
  refine good_pin (p := span_Subtract_E0.pin) (good_XF mxTryd (inv0Ok Tryd.prog _) rfl span_Subtract_E0_ok Tryd.func30 rfl (by kernel_rfl) span_Subtract_E0_lk30 ((span_Subtract_x _ _ _ (getD_of_isSome (d := []) hh1)).trans ?_))
  exact congrArg some hh2


noncomputable def EKC1_7 : Env := EKC1_6.with 30 span_Subtract_o

theorem EKC1_7_ok : OrcOk Tryd.prog ITryd EKC1_7 := EKC1_6_ok.with span_Subtract_c

/-- The environment of bitemporal/span.Covers: its loops so far. -/

noncomputable def span_Covers_E0 : Env := EKC1_7.fn 10 0 (lsOf []) (lpsOf [])

theorem span_Covers_E0_ok : OrcOk Tryd.prog (ITryd.at 0) span_Covers_E0 := EKC1_7_ok.fn

theorem span_Covers_E0_lk16 : LoOk Tryd.prog (ITryd.at span_Covers_E0.pin) span_Covers_E0 (Tryd.f16.body.getD .skip) := loOk_nil (by kernel_rfl)

/- 3 nodes -/
noncomputable def span_Covers_t {T : Type} (a : List AV) (b : List AV) (δ : T) (κ : Bool → T) : T := br ((span_Subtract b a).isSome) (κ ((↑((span_Subtract b a).getD []).length : Int) == (0 : Int))) (δ)
noncomputable def span_Covers (a : List AV) (b : List AV) : Option (Bool) := span_Covers_t a b none some
theorem span_Covers_x (a : List AV) (b : List AV) : Enc (fun (p : Bool) => ((AV.bool p) : AV)) (span_Covers a b) (XF Tryd.prog span_Covers_E0 Tryd.f16 (Tryd.f16.body.getD .skip) [AV.list (2 : Nat) a, AV.list (2 : Nat) b]) := by
  have h : XF Tryd.prog span_Covers_E0 Tryd.f16 (Tryd.f16.body.getD .skip) [AV.list (2 : Nat) a, AV.list (2 : Nat) b] = span_Covers_t a b none (fun (p : Bool) => some ((AV.bool p) : AV)) := by kernel_rfl
  rw [h]; unfold span_Covers span_Covers_t; repeat' (first | exact Enc.none | exact Enc.some rfl | refine Enc.br ?_ ?_)
noncomputable def span_Covers_o : List AV → Option (Bool × AV) := ocOf (sCons (sList (2 : Nat) pAny) (sCons (sList (2 : Nat) pAny) sNil)) fun (a, (b, _)) => ((span_Covers a b).isSome, (AV.bool ((span_Covers a b).getD false)))
theorem span_Covers_c : OcOk Tryd.prog ITryd 16 (span_Covers_o) := ocOk_of fun vv rr hh => by
  obtain ⟨a, ⟨b, _⟩⟩ := vv
  obtain ⟨hh1, hh2⟩ := Prod.mk.inj hh
  refine good_pin (p := span_Covers_E0.pin) (good_XF mxTryd (inv0Ok Tryd.prog _) rfl span_Covers_E0_ok Tryd.func16 rfl (by kernel_rfl) span_Covers_E0_lk16 ((span_Covers_x _ _ _ (getD_of_isSome (d := false) hh1)).trans ?_))
  exact congrArg some hh2


noncomputable def EKC1_8 : Env := EKC1_7.with 16 span_Covers_o

theorem EKC1_8_ok : OrcOk Tryd.prog ITryd EKC1_8 := EKC1_7_ok.with span_Covers_c

noncomputable abbrev EKC1 : Env := EKC1_8

theorem EKC1_ok : OrcOk Tryd.prog ITryd EKC1 := EKC1_8_ok

end Go.Sim.M
