/- Functions of the program as the executor found them: printed by program, checked by the kernel. -/
import Derived.Test.YtlapjnnkblbhdaaDoorL4
set_option linter.unusedVariables false
set_option linter.unusedSimpArgs false
set_option maxRecDepth 100000
namespace Go.Sim.M
open Go.RowKit Go.Proofs

/-- The environment of slices.stableCmpFunc   bitemporal/api.Value : its loops so far. -/

noncomputable def slices_stableCmpFunc_A_E0 : Env := EL4.fn 63 1 (lsOf [22]) (lpsOf [])

theorem slices_stableCmpFunc_A_E0_ok : OrcOk Tryd.prog (ITryd.at 1) slices_stableCmpFunc_A_E0 := EL4_ok.fn

theorem slices_stableCmpFunc_A_E0_lk71_0 : LoOk Tryd.prog (ITryd.at slices_stableCmpFunc_A_E0.pin) slices_stableCmpFunc_A_E0 (loopAt Tryd.f71 0) := loOk_nil (by kernel_rfl)

/- 5 nodes -/
noncomputable def slices_stableCmpFunc_A_l0_t {T : Type} (data : Nat) (n : Int) (blockSize : Int) (a : Int) (b : Int) (data_xs : List AV) (δ : T) (κl : (Int × Int × List AV) → T) (κr : (Int × List AV) → T) : T := br (decide (b ≤ n)) (br ((slices_insertionSortCmpFunc_A data a b data_xs).isSome) (κl (b, IntKind.i64.wrap (b + blockSize), (slices_insertionSortCmpFunc_A data a b data_xs).getD [])) (δ)) (κr (a, data_xs))
noncomputable def slices_stableCmpFunc_A_l0_step (data : Nat) (n : Int) (blockSize : Int) : (Int × Int × List AV) → Option ((Int × Int × List AV) ⊕ (Int × List AV)) := fun (a, b, data_xs) => slices_stableCmpFunc_A_l0_t data n blockSize a b data_xs none (fun s => some (.inl s)) (fun p => some (.inr p))
noncomputable def slices_stableCmpFunc_A_l0_L (data : Nat) (n : Int) (blockSize : Int) : (Int × Int × List AV) → List AV × List Box := fun (a, b, data_xs) => ([AV.osl 0 0 0 data, AV.int IntKind.i64 n, AV.func (10 : Nat) [], AV.int IntKind.i64 blockSize, AV.int IntKind.i64 a, AV.int IntKind.i64 b], [⟨0, (1 : Nat), (22 : Nat), data_xs, false, true⟩])
noncomputable def slices_stableCmpFunc_A_l0_out (data : Nat) (n : Int) (blockSize : Int) : (Int × List AV) → LR := fun p => (.leaf (Exit.exit (0 : Nat)) [AV.osl 0 0 0 data, AV.int IntKind.i64 n, AV.func (10 : Nat) [], AV.int IntKind.i64 blockSize, AV.int IntKind.i64 p.1] [⟨0, (1 : Nat), (22 : Nat), p.2, false, true⟩])
noncomputable abbrev slices_stableCmpFunc_A_l0_X (vals : List AV) (H : List Box) := XR Tryd.prog slices_stableCmpFunc_A_E0 [0, 1, 2, 6, 7, 8] [0, 1, 2, 6, 7] [] (loopAt Tryd.f71 0) vals H
theorem slices_stableCmpFunc_A_l0_r (data : Nat) (n : Int) (blockSize : Int) (s : Int × Int × List AV) : Enc (encR (slices_stableCmpFunc_A_l0_L data n blockSize) (slices_stableCmpFunc_A_l0_out data n blockSize)) (slices_stableCmpFunc_A_l0_step data n blockSize s) (slices_stableCmpFunc_A_l0_X (slices_stableCmpFunc_A_l0_L data n blockSize s).1 (slices_stableCmpFunc_A_l0_L data n blockSize s).2) := by
  obtain ⟨a, b, data_xs⟩ := s
  have h : slices_stableCmpFunc_A_l0_X (slices_stableCmpFunc_A_l0_L data n blockSize (a, b, data_xs)).1 (slices_stableCmpFunc_A_l0_L data n blockSize (a, b, data_xs)).2 = slices_stableCmpFunc_A_l0_t data n blockSize a b data_xs none (fun s => some (encR (slices_stableCmpFunc_A_l0_L data n blockSize) (slices_stableCmpFunc_A_l0_out data n blockSize) (.inl s))) (fun p => some (encR (slices_stableCmpFunc_A_l0_L data n blockSize) (slices_stableCmpFunc_A_l0_out data n blockSize) (.inr p))) := by kernel_rfl
  rw [h]; unfold slices_stableCmpFunc_A_l0_step slices_stableCmpFunc_A_l0_t; repeat' (first | exact Enc.none | exact Enc.some rfl | refine Enc.br ?_ ?_)
noncomputable def slices_stableCmpFunc_A_l0_lp : Lp := lpOf [0, 1, 2, 6, 7, 8] [0, 1, 2, 6, 7] [] (pCons (pOsl (0 : Nat) (0 : Nat) (0 : Nat)) (pCons (pInt IntKind.i64) (pCons (pFunc (10 : Nat) pNil) (pCons (pInt IntKind.i64) (pCons (pInt IntKind.i64) (pCons (pInt IntKind.i64) pNil)))))) (pCons (pBox (0 : Nat) (1 : Nat) (22 : Nat) false true pAny) pNil) fun (data, (n, (_, (blockSize, (a, (b, _)))))) (data_xs, _) => ((Iter (slices_stableCmpFunc_A_l0_step data n blockSize) (a, b, data_xs)).isSome, slices_stableCmpFunc_A_l0_out data n blockSize ((Iter (slices_stableCmpFunc_A_l0_step data n blockSize) (a, b, data_xs)).getD (0, [])))
theorem slices_stableCmpFunc_A_l0_lok : LoopOk Tryd.prog (ITryd.at slices_stableCmpFunc_A_E0.pin) slices_stableCmpFunc_A_E0.nt (loopAt Tryd.f71 0) slices_stableCmpFunc_A_l0_lp := lok_of fun vv bb rr hh => by
  obtain ⟨data, ⟨n, ⟨_, ⟨blockSize, ⟨a, ⟨b, _⟩⟩⟩⟩⟩⟩ := vv
  obtain ⟨data_xs, _⟩ := bb
  obtain ⟨hh1, rfl⟩ := Prod.mk.inj hh
  exact loop_of_XR mxTryd (inv0Ok Tryd.prog _) rfl slices_stableCmpFunc_A_E0_ok slices_stableCmpFunc_A_E0_lk71_0 (slices_stableCmpFunc_A_l0_L data n blockSize) (slices_stableCmpFunc_A_l0_out data n blockSize) (fun p => by simp only [slices_stableCmpFunc_A_l0_out, LR.eval]; first | (simp; done) | (repeat' split <;> simp)) (slices_stableCmpFunc_A_l0_r data n blockSize) (s := (a, b, data_xs)) (getD_of_isSome hh1)


/-- The environment of slices.stableCmpFunc   bitemporal/api.Value : its loops so far. -/

noncomputable def slices_stableCmpFunc_A_E1 : Env := EL4.fn 63 1 (lsOf [22]) (lpsOf [(2, slices_stableCmpFunc_A_l0_lp)])

theorem slices_stableCmpFunc_A_E1_ok : OrcOk Tryd.prog (ITryd.at 1) slices_stableCmpFunc_A_E1 := EL4_ok.fn

theorem slices_stableCmpFunc_A_E1_lk71_2 : LoOk Tryd.prog (ITryd.at slices_stableCmpFunc_A_E1.pin) slices_stableCmpFunc_A_E1 (loopAt Tryd.f71 2) := loOk_nil (by kernel_rfl)

/- 5 nodes -/
noncomputable def slices_stableCmpFunc_A_l2_t {T : Type} (data : Nat) (n : Int) (blockSize : Int) (a : Int) (b : Int) (data_xs : List AV) (δ : T) (κl : (Int × Int × List AV) → T) (κr : (Int × List AV) → T) : T := br (decide (b ≤ n)) (br ((slices_symMergeCmpFunc_A_R (1000 : Nat) data a (IntKind.i64.wrap (a + blockSize)) b data_xs).isSome) (κl (b, IntKind.i64.wrap (b + IntKind.i64.wrap ((2 : Int) * blockSize)), (slices_symMergeCmpFunc_A_R (1000 : Nat) data a (IntKind.i64.wrap (a + blockSize)) b data_xs).getD [])) (δ)) (κr (a, data_xs))
noncomputable def slices_stableCmpFunc_A_l2_step (data : Nat) (n : Int) (blockSize : Int) : (Int × Int × List AV) → Option ((Int × Int × List AV) ⊕ (Int × List AV)) := fun (a, b, data_xs) => slices_stableCmpFunc_A_l2_t data n blockSize a b data_xs none (fun s => some (.inl s)) (fun p => some (.inr p))
noncomputable def slices_stableCmpFunc_A_l2_L (data : Nat) (n : Int) (blockSize : Int) : (Int × Int × List AV) → List AV × List Box := fun (a, b, data_xs) => ([AV.osl 0 0 0 data, AV.int IntKind.i64 n, AV.func (10 : Nat) [], AV.int IntKind.i64 blockSize, AV.int IntKind.i64 a, AV.int IntKind.i64 b], [⟨0, (1 : Nat), (22 : Nat), data_xs, false, true⟩])
noncomputable def slices_stableCmpFunc_A_l2_out (data : Nat) (n : Int) (blockSize : Int) : (Int × List AV) → LR := fun p => (.leaf (Exit.exit (4 : Nat)) [AV.osl 0 0 0 data, AV.int IntKind.i64 n, AV.func (10 : Nat) [], AV.int IntKind.i64 blockSize, AV.int IntKind.i64 p.1] [⟨0, (1 : Nat), (22 : Nat), p.2, false, true⟩])
noncomputable abbrev slices_stableCmpFunc_A_l2_X (vals : List AV) (H : List Box) := XR Tryd.prog slices_stableCmpFunc_A_E1 [0, 1, 2, 6, 7, 8] [0, 1, 2, 6, 7] [] (loopAt Tryd.f71 2) vals H
theorem slices_stableCmpFunc_A_l2_r (data : Nat) (n : Int) (blockSize : Int) (s : Int × Int × List AV) : Enc (encR (slices_stableCmpFunc_A_l2_L data n blockSize) (slices_stableCmpFunc_A_l2_out data n blockSize)) (slices_stableCmpFunc_A_l2_step data n blockSize s) (slices_stableCmpFunc_A_l2_X (slices_stableCmpFunc_A_l2_L data n blockSize s).1 (slices_stableCmpFunc_A_l2_L data n blockSize s).2) := by
  obtain ⟨a, b, data_xs⟩ := s
  have h : slices_stableCmpFunc_A_l2_X (slices_stableCmpFunc_A_l2_L data n blockSize (a, b, data_xs)).1 (slices_stableCmpFunc_A_l2_L data n blockSize (a, b, data_xs)).2 = slices_stableCmpFunc_A_l2_t data n blockSize a b data_xs none (fun s => some (encR (slices_stableCmpFunc_A_l2_L data n blockSize) (slices_stableCmpFunc_A_l2_out data n blockSize) (.inl s))) (fun p => some (encR (slices_stableCmpFunc_A_l2_L data n blockSize) (slices_stableCmpFunc_A_l2_out data n blockSize) (.inr p))) := by kernel_rfl
  rw [h]; unfold slices_stableCmpFunc_A_l2_step slices_stableCmpFunc_A_l2_t; repeat' (first | exact Enc.none | exact Enc.some rfl | refine Enc.br ?_ ?_)
noncomputable def slices_stableCmpFunc_A_l2_lp : Lp := lpOf [0, 1, 2, 6, 7, 8] [0, 1, 2, 6, 7] [] (pCons (pOsl (0 : Nat) (0 : Nat) (0 : Nat)) (pCons (pInt IntKind.i64) (pCons (pFunc (10 : Nat) pNil) (pCons (pInt IntKind.i64) (pCons (pInt IntKind.i64) (pCons (pInt IntKind.i64) pNil)))))) (pCons (pBox (0 : Nat) (1 : Nat) (22 : Nat) false true pAny) pNil) fun (data, (n, (_, (blockSize, (a, (b, _)))))) (data_xs, _) => ((Iter (slices_stableCmpFunc_A_l2_step data n blockSize) (a, b, data_xs)).isSome, slices_stableCmpFunc_A_l2_out data n blockSize ((Iter (slices_stableCmpFunc_A_l2_step data n blockSize) (a, b, data_xs)).getD (0, [])))
theorem slices_stableCmpFunc_A_l2_lok : LoopOk Tryd.prog (ITryd.at slices_stableCmpFunc_A_E1.pin) slices_stableCmpFunc_A_E1.nt (loopAt Tryd.f71 2) slices_stableCmpFunc_A_l2_lp := lok_of fun vv bb rr hh => by
  obtain ⟨data, ⟨n, ⟨_, ⟨blockSize, ⟨a, ⟨b, _⟩⟩⟩⟩⟩⟩ := vv
  obtain ⟨data_xs, _⟩ := bb
  obtain ⟨hh1, rfl⟩ := Prod.mk.inj hh
  exact loop_of_XR mxTryd (inv0Ok Tryd.prog _) rfl slices_stableCmpFunc_A_E1_ok slices_stableCmpFunc_A_E1_lk71_2 (slices_stableCmpFunc_A_l2_L data n blockSize) (slices_stableCmpFunc_A_l2_out data n blockSize) (fun p => by simp only [slices_stableCmpFunc_A_l2_out, LR.eval]; first | (simp; done) | (repeat' split <;> simp)) (slices_stableCmpFunc_A_l2_r data n blockSize) (s := (a, b, data_xs)) (getD_of_isSome hh1)


/-- The environment of slices.stableCmpFunc   bitemporal/api.Value : its loops so far. -/

noncomputable def slices_stableCmpFunc_A_E2 : Env := EL4.fn 63 1 (lsOf [22]) (lpsOf [(2, slices_stableCmpFunc_A_l0_lp), (9, slices_stableCmpFunc_A_l2_lp)])

theorem slices_stableCmpFunc_A_E2_ok : OrcOk Tryd.prog (ITryd.at 1) slices_stableCmpFunc_A_E2 := EL4_ok.fn

theorem slices_stableCmpFunc_A_E2_lk71_1 : LoOk Tryd.prog (ITryd.at slices_stableCmpFunc_A_E2.pin) slices_stableCmpFunc_A_E2 (loopAt Tryd.f71 1) := loOk_all (ls := [loopAt Tryd.f71 2]) (by kernel_rfl) (fun l hl lp hs => by
  simp only [List.mem_cons, List.not_mem_nil, or_false] at hl
  rcases hl with rfl
  · rw [show slices_stableCmpFunc_A_E2.lp (codeId (loopAt Tryd.f71 2)) = some slices_stableCmpFunc_A_l2_lp by kernel_rfl] at hs
    simp only [Option.some.injEq] at hs; subst hs; exact slices_stableCmpFunc_A_l2_lok)

/- 9 nodes -/
noncomputable def slices_stableCmpFunc_A_l1_v5 (data : Nat) (n : Int) (blockSize : Int) (data_xs : List AV) : Option (Int × List AV) := Iter (slices_stableCmpFunc_A_l2_step data n blockSize) ((0 : Int), IntKind.i64.wrap ((2 : Int) * blockSize), data_xs)
noncomputable def slices_stableCmpFunc_A_l1_v4 (data : Nat) (n : Int) (blockSize : Int) (data_xs : List AV) : Int × List AV := (slices_stableCmpFunc_A_l1_v5 data n blockSize data_xs).getD ((0 : Int), [])
noncomputable def slices_stableCmpFunc_A_l1_v2 (data : Nat) (n : Int) (blockSize : Int) (data_xs : List AV) : Int := (slices_stableCmpFunc_A_l1_v4 data n blockSize data_xs).fst
noncomputable def slices_stableCmpFunc_A_l1_v3 (data : Nat) (n : Int) (blockSize : Int) (data_xs : List AV) : List AV := (slices_stableCmpFunc_A_l1_v4 data n blockSize data_xs).snd
noncomputable def slices_stableCmpFunc_A_l1_v1 (data : Nat) (n : Int) (blockSize : Int) (data_xs : List AV) : Int := IntKind.i64.wrap (slices_stableCmpFunc_A_l1_v2 data n blockSize data_xs + blockSize)
noncomputable def slices_stableCmpFunc_A_l1_v0 (data : Nat) (n : Int) (blockSize : Int) (data_xs : List AV) : Option (List AV) := slices_symMergeCmpFunc_A_R (1000 : Nat) data (slices_stableCmpFunc_A_l1_v2 data n blockSize data_xs) (slices_stableCmpFunc_A_l1_v1 data n blockSize data_xs) n (slices_stableCmpFunc_A_l1_v3 data n blockSize data_xs)
noncomputable def slices_stableCmpFunc_A_l1_t {T : Type} (data : Nat) (n : Int) (blockSize : Int) (data_xs : List AV) (δ : T) (κl : (Int × List AV) → T) (κr : (List AV) → T) : T := br (decide (blockSize < n)) (br ((slices_stableCmpFunc_A_l1_v5 data n blockSize data_xs).isSome) (br (decide (slices_stableCmpFunc_A_l1_v1 data n blockSize data_xs < n)) (br ((slices_stableCmpFunc_A_l1_v0 data n blockSize data_xs).isSome) (κl (IntKind.i64.wrap (blockSize * (2 : Int)), (slices_stableCmpFunc_A_l1_v0 data n blockSize data_xs).getD [])) (δ)) (κl (IntKind.i64.wrap (blockSize * (2 : Int)), slices_stableCmpFunc_A_l1_v3 data n blockSize data_xs))) (δ)) (κr (data_xs))
noncomputable def slices_stableCmpFunc_A_l1_step (data : Nat) (n : Int) : (Int × List AV) → Option ((Int × List AV) ⊕ (List AV)) := fun (blockSize, data_xs) => slices_stableCmpFunc_A_l1_t data n blockSize data_xs none (fun s => some (.inl s)) (fun p => some (.inr p))
noncomputable def slices_stableCmpFunc_A_l1_L (data : Nat) (n : Int) : (Int × List AV) → List AV × List Box := fun (blockSize, data_xs) => ([AV.osl 0 0 0 data, AV.int IntKind.i64 n, AV.func (10 : Nat) [], AV.int IntKind.i64 blockSize], [⟨0, (1 : Nat), (22 : Nat), data_xs, false, true⟩])
noncomputable def slices_stableCmpFunc_A_l1_out (data : Nat) (n : Int) : (List AV) → LR := fun p => (.leaf (Exit.exit (2 : Nat)) [] [⟨0, (1 : Nat), (22 : Nat), p, false, true⟩])
noncomputable abbrev slices_stableCmpFunc_A_l1_X (vals : List AV) (H : List Box) := XR Tryd.prog slices_stableCmpFunc_A_E2 [0, 1, 2, 6] [] [] (loopAt Tryd.f71 1) vals H
theorem slices_stableCmpFunc_A_l1_r (data : Nat) (n : Int) (s : Int × List AV) : Enc (encR (slices_stableCmpFunc_A_l1_L data n) (slices_stableCmpFunc_A_l1_out data n)) (slices_stableCmpFunc_A_l1_step data n s) (slices_stableCmpFunc_A_l1_X (slices_stableCmpFunc_A_l1_L data n s).1 (slices_stableCmpFunc_A_l1_L data n s).2) := by
  obtain ⟨blockSize, data_xs⟩ := s
  have h : slices_stableCmpFunc_A_l1_X (slices_stableCmpFunc_A_l1_L data n (blockSize, data_xs)).1 (slices_stableCmpFunc_A_l1_L data n (blockSize, data_xs)).2 = slices_stableCmpFunc_A_l1_t data n blockSize data_xs none (fun s => some (encR (slices_stableCmpFunc_A_l1_L data n) (slices_stableCmpFunc_A_l1_out data n) (.inl s))) (fun p => some (encR (slices_stableCmpFunc_A_l1_L data n) (slices_stableCmpFunc_A_l1_out data n) (.inr p))) := by kernel_rfl
  rw [h]; unfold slices_stableCmpFunc_A_l1_step slices_stableCmpFunc_A_l1_t; repeat' (first | exact Enc.none | exact Enc.some rfl | refine Enc.br ?_ ?_)
noncomputable def slices_stableCmpFunc_A_l1_lp : Lp := lpOf [0, 1, 2, 6] [] [] (pCons (pOsl (0 : Nat) (0 : Nat) (0 : Nat)) (pCons (pInt IntKind.i64) (pCons (pFunc (10 : Nat) pNil) (pCons (pInt IntKind.i64) pNil)))) (pCons (pBox (0 : Nat) (1 : Nat) (22 : Nat) false true pAny) pNil) fun (data, (n, (_, (blockSize, _)))) (data_xs, _) => ((Iter (slices_stableCmpFunc_A_l1_step data n) (blockSize, data_xs)).isSome, slices_stableCmpFunc_A_l1_out data n ((Iter (slices_stableCmpFunc_A_l1_step data n) (blockSize, data_xs)).getD []))
theorem slices_stableCmpFunc_A_l1_lok : LoopOk Tryd.prog (ITryd.at slices_stableCmpFunc_A_E2.pin) slices_stableCmpFunc_A_E2.nt (loopAt Tryd.f71 1) slices_stableCmpFunc_A_l1_lp := lok_of fun vv bb rr hh => by
  obtain ⟨data, ⟨n, ⟨_, ⟨blockSize, _⟩⟩⟩⟩ := vv
  obtain ⟨data_xs, _⟩ := bb
  obtain ⟨hh1, rfl⟩ := Prod.mk.inj hh
  exact loop_of_XR mxTryd (inv0Ok Tryd.prog _) rfl slices_stableCmpFunc_A_E2_ok slices_stableCmpFunc_A_E2_lk71_1 (slices_stableCmpFunc_A_l1_L data n) (slices_stableCmpFunc_A_l1_out data n) (fun p => by simp only [slices_stableCmpFunc_A_l1_out, LR.eval]; first | (simp; done) | (repeat' split <;> simp)) (slices_stableCmpFunc_A_l1_r data n) (s := (blockSize, data_xs)) (getD_of_isSome hh1)


/-- The environment of slices.stableCmpFunc   bitemporal/api.Value : its loops so far. -/

noncomputable def slices_stableCmpFunc_A_E3 : Env := EL4.fn 63 1 (lsOf [22]) (lpsOf [(2, slices_stableCmpFunc_A_l0_lp), (9, slices_stableCmpFunc_A_l2_lp), (7, slices_stableCmpFunc_A_l1_lp)])

theorem slices_stableCmpFunc_A_E3_ok : OrcOk Tryd.prog (ITryd.at 1) slices_stableCmpFunc_A_E3 := EL4_ok.fn

theorem slices_stableCmpFunc_A_E3_lk71 : LoOk Tryd.prog (ITryd.at slices_stableCmpFunc_A_E3.pin) slices_stableCmpFunc_A_E3 (Tryd.f71.body.getD .skip) := loOk_all (ls := [loopAt Tryd.f71 0, loopAt Tryd.f71 1, loopAt Tryd.f71 2]) (by kernel_rfl) (fun l hl lp hs => by
  simp only [List.mem_cons, List.not_mem_nil, or_false] at hl
  rcases hl with rfl | rfl | rfl
  · rw [show slices_stableCmpFunc_A_E3.lp (codeId (loopAt Tryd.f71 0)) = some slices_stableCmpFunc_A_l0_lp by kernel_rfl] at hs
    simp only [Option.some.injEq] at hs; subst hs; exact slices_stableCmpFunc_A_l0_lok
  · rw [show slices_stableCmpFunc_A_E3.lp (codeId (loopAt Tryd.f71 1)) = some slices_stableCmpFunc_A_l1_lp by kernel_rfl] at hs
    simp only [Option.some.injEq] at hs; subst hs; exact slices_stableCmpFunc_A_l1_lok
  · rw [show slices_stableCmpFunc_A_E3.lp (codeId (loopAt Tryd.f71 2)) = some slices_stableCmpFunc_A_l2_lp by kernel_rfl] at hs
    simp only [Option.some.injEq] at hs; subst hs; exact slices_stableCmpFunc_A_l2_lok)

/- 7 nodes -/
noncomputable def slices_stableCmpFunc_A_v2 (n : Nat) (k : Int) (xs : List AV) : Int × List AV := (Iter (slices_stableCmpFunc_A_l0_step n k (20 : Int)) ((0 : Int), (20 : Int), xs)).getD ((0 : Int), [])
noncomputable def slices_stableCmpFunc_A_v1 (n : Nat) (k : Int) (xs : List AV) : Option (List AV) := slices_insertionSortCmpFunc_A n (slices_stableCmpFunc_A_v2 n k xs).fst k (slices_stableCmpFunc_A_v2 n k xs).snd
noncomputable def slices_stableCmpFunc_A_v0 (n : Nat) (k : Int) (xs : List AV) : Option (List AV) := Iter (slices_stableCmpFunc_A_l1_step n k) ((20 : Int), (slices_stableCmpFunc_A_v1 n k xs).getD [])
noncomputable def slices_stableCmpFunc_A_t {T : Type} (n : Nat) (k : Int) (xs : List AV) (δ : T) (κ : List AV → T) : T := br ((Iter (slices_stableCmpFunc_A_l0_step n k (20 : Int)) ((0 : Int), (20 : Int), xs)).isSome) (br ((slices_stableCmpFunc_A_v1 n k xs).isSome) (br ((slices_stableCmpFunc_A_v0 n k xs).isSome) (κ ((slices_stableCmpFunc_A_v0 n k xs).getD [])) (δ)) (δ)) (δ)
noncomputable def slices_stableCmpFunc_A (n : Nat) (k : Int) (xs : List AV) : Option (List AV) := slices_stableCmpFunc_A_t n k xs none some
theorem slices_stableCmpFunc_A_x (n : Nat) (k : Int) (xs : List AV) : Enc (fun (p : List AV) => (((AV.tuple [], ([⟨0, (1 : Nat), (22 : Nat), p, false, true⟩] : List Box))) : (AV × List Box))) (slices_stableCmpFunc_A n k xs) (XFM Tryd.prog slices_stableCmpFunc_A_E3 Tryd.f71 (Tryd.f71.body.getD .skip) [AV.osl (0 : Nat) (0 : Nat) (0 : Nat) n, AV.int IntKind.i64 k, AV.func (10 : FuncId) []] [{ ver := (0 : Nat), sz := (1 : Nat), ty := (22 : TypeId), xs := xs, frz := false, pm := true }]) := by
  have h : XFM Tryd.prog slices_stableCmpFunc_A_E3 Tryd.f71 (Tryd.f71.body.getD .skip) [AV.osl (0 : Nat) (0 : Nat) (0 : Nat) n, AV.int IntKind.i64 k, AV.func (10 : FuncId) []] [{ ver := (0 : Nat), sz := (1 : Nat), ty := (22 : TypeId), xs := xs, frz := false, pm := true }] = slices_stableCmpFunc_A_t n k xs none (fun (p : List AV) => some (((AV.tuple [], ([⟨0, (1 : Nat), (22 : Nat), p, false, true⟩] : List Box))) : (AV × List Box))) := by kernel_rfl
  rw [h]; unfold slices_stableCmpFunc_A slices_stableCmpFunc_A_t; repeat' (first | exact Enc.none | exact Enc.some rfl | refine Enc.br ?_ ?_)
noncomputable def slices_stableCmpFunc_A_o : List AV → List Box → Option (Bool × AV × List Box) := omOf (sCons (sEq (pOsl (0 : Nat) (0 : Nat) (0 : Nat))) (sCons (sEq (pInt IntKind.i64)) (sCons (sEq (pFunc (10 : FuncId) pNil)) sNil))) (pCons (pBox (0 : Nat) (1 : Nat) (22 : TypeId) false true pAny) pNil) fun (n, (k, (_, _))) (xs, _) => ((slices_stableCmpFunc_A n k xs).isSome, ((AV.tuple [], ([⟨0, (1 : Nat), (22 : Nat), ((slices_stableCmpFunc_A n k xs).getD []), false, true⟩] : List Box))))
theorem slices_stableCmpFunc_A_c : OmOk Tryd.prog ITryd 71 (slices_stableCmpFunc_A_o) := omOk_of fun vv bb rr hh' hh => by
  obtain ⟨n, ⟨k, ⟨_, _⟩⟩⟩ := vv
  obtain ⟨xs, _⟩ := bb
  obtain ⟨hh1, hh2⟩ := Prod.mk.inj hh
  refine goodM_pin (p := slices_stableCmpFunc_A_E3.pin) (goodM_XFM mxTryd (inv0Ok Tryd.prog _) rfl slices_stableCmpFunc_A_E3_ok rfl Tryd.func71 rfl (by kernel_rfl) slices_stableCmpFunc_A_E3_lk71 ((slices_stableCmpFunc_A_x _ _ _ _ (getD_of_isSome (d := []) hh1)).trans ?_))
  exact congrArg some hh2


noncomputable def EL5_1 : Env := EL4.withM 71 slices_stableCmpFunc_A_o

theorem EL5_1_ok : OrcOk Tryd.prog ITryd EL5_1 := EL4_ok.withM slices_stableCmpFunc_A_c

/-- The environment of slices.SortStableFunc     bitemporal/api.Value,  bitemporal/api.Value : its loops so far. -/

noncomputable def slices_SortStableFunc_A_E0 : Env := EL5_1.fn 9 1 (lsOf [22]) (lpsOf [])

theorem slices_SortStableFunc_A_E0_ok : OrcOk Tryd.prog (ITryd.at 1) slices_SortStableFunc_A_E0 := EL5_1_ok.fn

theorem slices_SortStableFunc_A_E0_lk55 : LoOk Tryd.prog (ITryd.at slices_SortStableFunc_A_E0.pin) slices_SortStableFunc_A_E0 (Tryd.f55.body.getD .skip) := loOk_nil (by kernel_rfl)

/- 3 nodes -/
noncomputable def slices_SortStableFunc_A_t {T : Type} (n : Nat) (xs : List AV) (δ : T) (κ : List AV → T) : T := br ((slices_stableCmpFunc_A n (↑n : Int) xs).isSome) (κ ((slices_stableCmpFunc_A n (↑n : Int) xs).getD [])) (δ)
noncomputable def slices_SortStableFunc_A (n : Nat) (xs : List AV) : Option (List AV) := slices_SortStableFunc_A_t n xs none some
theorem slices_SortStableFunc_A_x (n : Nat) (xs : List AV) : Enc (fun (p : List AV) => (((AV.tuple [], ([⟨0, (1 : Nat), (22 : Nat), p, false, true⟩] : List Box))) : (AV × List Box))) (slices_SortStableFunc_A n xs) (XFM Tryd.prog slices_SortStableFunc_A_E0 Tryd.f55 (Tryd.f55.body.getD .skip) [AV.osl (0 : Nat) (0 : Nat) (0 : Nat) n, AV.func (10 : FuncId) []] [{ ver := (0 : Nat), sz := (1 : Nat), ty := (22 : TypeId), xs := xs, frz := false, pm := true }]) := by
  have h : XFM Tryd.prog slices_SortStableFunc_A_E0 Tryd.f55 (Tryd.f55.body.getD .skip) [AV.osl (0 : Nat) (0 : Nat) (0 : Nat) n, AV.func (10 : FuncId) []] [{ ver := (0 : Nat), sz := (1 : Nat), ty := (22 : TypeId), xs := xs, frz := false, pm := true }] = slices_SortStableFunc_A_t n xs none (fun (p : List AV) => some (((AV.tuple [], ([⟨0, (1 : Nat), (22 : Nat), p, false, true⟩] : List Box))) : (AV × List Box))) := by kernel_rfl
  rw [h]; unfold slices_SortStableFunc_A slices_SortStableFunc_A_t; repeat' (first | exact Enc.none | exact Enc.some rfl | refine Enc.br ?_ ?_)
noncomputable def slices_SortStableFunc_A_o : List AV → List Box → Option (Bool × AV × List Box) := omOf (sCons (sEq (pOsl (0 : Nat) (0 : Nat) (0 : Nat))) (sCons (sEq (pFunc (10 : FuncId) pNil)) sNil)) (pCons (pBox (0 : Nat) (1 : Nat) (22 : TypeId) false true pAny) pNil) fun (n, (_, _)) (xs, _) => ((slices_SortStableFunc_A n xs).isSome, ((AV.tuple [], ([⟨0, (1 : Nat), (22 : Nat), ((slices_SortStableFunc_A n xs).getD []), false, true⟩] : List Box))))
theorem slices_SortStableFunc_A_c : OmOk Tryd.prog ITryd 55 (slices_SortStableFunc_A_o) := omOk_of fun vv bb rr hh' hh => by
  obtain ⟨n, ⟨_, _⟩⟩ := vv
  obtain ⟨xs, _⟩ := bb
  obtain ⟨hh1, hh2⟩ := Prod.mk.inj hh
  refine goodM_pin (p := slices_SortStableFunc_A_E0.pin) (goodM_XFM mxTryd (inv0Ok Tryd.prog _) rfl slices_SortStableFunc_A_E0_ok rfl Tryd.func55 rfl (by kernel_rfl) slices_SortStableFunc_A_E0_lk55 ((slices_SortStableFunc_A_x _ _ _ (getD_of_isSome (d := []) hh1)).trans ?_))
  exact congrArg some hh2


noncomputable def EL5_2 : Env := EL5_1.withM 55 slices_SortStableFunc_A_o

theorem EL5_2_ok : OrcOk Tryd.prog ITryd EL5_2 := EL5_1_ok.withM slices_SortStableFunc_A_c

/-- The environment of bitemporal/tuple.sorted bitemporal/api.Value : its loops so far. -/

noncomputable def tuple_sorted_A_E0 : Env := EL5_2.fn 27 0 (lsOf [22]) (lpsOf [])

theorem tuple_sorted_A_E0_ok : OrcOk Tryd.prog (ITryd.at 0) tuple_sorted_A_E0 := EL5_2_ok.fn

theorem tuple_sorted_A_E0_lk37_0 : LoOk Tryd.prog (ITryd.at tuple_sorted_A_E0.pin) tuple_sorted_A_E0 (loopAt Tryd.f37 0) := loOk_nil (by kernel_rfl)

/- 11 nodes -/
noncomputable def tuple_sorted_A_l0_t {T : Type} (t11 : List AV) (t12 : Int) (out_n : Nat) (t13 : Int) (out_xs : List AV) (δ : T) (κl : (Nat × Int × List AV) → T) (κr : (Nat × List AV) → T) : T := br (decide (t13 < t12)) (br (decide ((0 : Int) ≤ t13) && decide (t13 < (↑t11.length : Int))) (br (decide (t13.toNat < t11.length) && hasSh1 (Sh.list (3 : Nat)) ((t11.getD t13.toNat AV.top).cells.getD (0 : Nat) AV.top)) (br (decide (((t11.getD t13.toNat AV.top).cells.getD (0 : Nat) AV.top).toList.length ≤ (4398046511104 : Nat))) (br (out_n == out_xs.length && (decide ((out_n + (1 : Nat)) * (24 : Nat) ≤ (140737488355328 : Nat)) && decide (out_n + (1 : Nat) ≤ (4611686018427387904 : Nat)))) (κl (out_n + (1 : Nat), IntKind.i64.wrap (t13 + (1 : Int)), out_xs ++ [AV.list (3 : Nat) ((t11.getD t13.toNat AV.top).cells.getD (0 : Nat) AV.top).toList])) (δ)) (δ)) (δ)) (δ)) (κr (out_n, out_xs))
noncomputable def tuple_sorted_A_l0_step (t11 : List AV) (t12 : Int) : (Nat × Int × List AV) → Option ((Nat × Int × List AV) ⊕ (Nat × List AV)) := fun (out_n, t13, out_xs) => tuple_sorted_A_l0_t t11 t12 out_n t13 out_xs none (fun s => some (.inl s)) (fun p => some (.inr p))
noncomputable def tuple_sorted_A_l0_L (t11 : List AV) (t12 : Int) : (Nat × Int × List AV) → List AV × List Box := fun (out_n, t13, out_xs) => ([AV.func (10 : Nat) [], AV.osl 0 0 0 out_n, AV.list (1 : Nat) t11, AV.int IntKind.i64 t12, AV.int IntKind.i64 t13], [⟨0, (1 : Nat), (22 : Nat), out_xs, false, true⟩])
noncomputable def tuple_sorted_A_l0_out (t11 : List AV) (t12 : Int) : (Nat × List AV) → LR := fun p => (.leaf (Exit.exit (0 : Nat)) [AV.func (10 : Nat) [], AV.osl 0 0 0 p.1] [⟨0, (1 : Nat), (22 : Nat), p.2, false, true⟩])
noncomputable abbrev tuple_sorted_A_l0_X (vals : List AV) (H : List Box) := XR Tryd.prog tuple_sorted_A_E0 [1, 5, 11, 12, 13] [1, 5] [(5, 1, 22)] (loopAt Tryd.f37 0) vals H
theorem tuple_sorted_A_l0_r (t11 : List AV) (t12 : Int) (s : Nat × Int × List AV) : Enc (encR (tuple_sorted_A_l0_L t11 t12) (tuple_sorted_A_l0_out t11 t12)) (tuple_sorted_A_l0_step t11 t12 s) (tuple_sorted_A_l0_X (tuple_sorted_A_l0_L t11 t12 s).1 (tuple_sorted_A_l0_L t11 t12 s).2) := by
  obtain ⟨out_n, t13, out_xs⟩ := s
  have h : tuple_sorted_A_l0_X (tuple_sorted_A_l0_L t11 t12 (out_n, t13, out_xs)).1 (tuple_sorted_A_l0_L t11 t12 (out_n, t13, out_xs)).2 = tuple_sorted_A_l0_t t11 t12 out_n t13 out_xs none (fun s => some (encR (tuple_sorted_A_l0_L t11 t12) (tuple_sorted_A_l0_out t11 t12) (.inl s))) (fun p => some (encR (tuple_sorted_A_l0_L t11 t12) (tuple_sorted_A_l0_out t11 t12) (.inr p))) := by kernel_rfl
  rw [h]; unfold tuple_sorted_A_l0_step tuple_sorted_A_l0_t; repeat' (first | exact Enc.none | exact Enc.some rfl | refine Enc.br ?_ ?_)
noncomputable def tuple_sorted_A_l0_lp : Lp := lpOf [1, 5, 11, 12, 13] [1, 5] [(5, 1, 22)] (pCons (pFunc (10 : Nat) pNil) (pCons (pOsl (0 : Nat) (0 : Nat) (0 : Nat)) (pCons (pList (1 : Nat) pAny) (pCons (pInt IntKind.i64) (pCons (pInt IntKind.i64) pNil))))) (pCons (pBox (0 : Nat) (1 : Nat) (22 : Nat) false true pAny) pNil) fun (_, (out_n, (t11, (t12, (t13, _))))) (out_xs, _) => ((Iter (tuple_sorted_A_l0_step t11 t12) (out_n, t13, out_xs)).isSome, tuple_sorted_A_l0_out t11 t12 ((Iter (tuple_sorted_A_l0_step t11 t12) (out_n, t13, out_xs)).getD (0, [])))
theorem tuple_sorted_A_l0_lok : LoopOk Tryd.prog (ITryd.at tuple_sorted_A_E0.pin) tuple_sorted_A_E0.nt (loopAt Tryd.f37 0) tuple_sorted_A_l0_lp := lok_of fun vv bb rr hh => by
  obtain ⟨_, ⟨out_n, ⟨t11, ⟨t12, ⟨t13, _⟩⟩⟩⟩⟩ := vv
  obtain ⟨out_xs, _⟩ := bb
  obtain ⟨hh1, rfl⟩ := Prod.mk.inj hh
  exact loop_of_XR mxTryd (inv0Ok Tryd.prog _) rfl tuple_sorted_A_E0_ok tuple_sorted_A_E0_lk37_0 (tuple_sorted_A_l0_L t11 t12) (tuple_sorted_A_l0_out t11 t12) (fun p => by simp only [tuple_sorted_A_l0_out, LR.eval]; first | (simp; done) | (repeat' split <;> simp)) (tuple_sorted_A_l0_r t11 t12) (s := (out_n, t13, out_xs)) (getD_of_isSome hh1)


/-- The environment of bitemporal/tuple.sorted bitemporal/api.Value : its loops so far. -/

noncomputable def tuple_sorted_A_E1 : Env := EL5_2.fn 27 0 (lsOf [22]) (lpsOf [(3, tuple_sorted_A_l0_lp)])

theorem tuple_sorted_A_E1_ok : OrcOk Tryd.prog (ITryd.at 0) tuple_sorted_A_E1 := EL5_2_ok.fn

theorem tuple_sorted_A_E1_lk37 : LoOk Tryd.prog (ITryd.at tuple_sorted_A_E1.pin) tuple_sorted_A_E1 (Tryd.f37.body.getD .skip) := loOk_all (ls := [loopAt Tryd.f37 0]) (by kernel_rfl) (fun l hl lp hs => by
  simp only [List.mem_cons, List.not_mem_nil, or_false] at hl
  rcases hl with rfl
  · rw [show tuple_sorted_A_E1.lp (codeId (loopAt Tryd.f37 0)) = some tuple_sorted_A_l0_lp by kernel_rfl] at hs
    simp only [Option.some.injEq] at hs; subst hs; exact tuple_sorted_A_l0_lok)

/- 9 nodes -/
noncomputable def tuple_sorted_A_v3 (l : List AV) : Nat × List AV := (Iter (tuple_sorted_A_l0_step l (↑l.length : Int)) ((0 : Nat), (0 : Int), [])).getD ((0 : Nat), [])
noncomputable def tuple_sorted_A_v2 (l : List AV) : Nat := (tuple_sorted_A_v3 l).fst
noncomputable def tuple_sorted_A_v1 (l : List AV) : Option (List AV) := slices_SortStableFunc_A (tuple_sorted_A_v2 l) (tuple_sorted_A_v3 l).snd
noncomputable def tuple_sorted_A_v0 (l : List AV) : List AV := (tuple_sorted_A_v1 l).getD []
noncomputable def tuple_sorted_A_t {T : Type} (l : List AV) (δ : T) (κ : List AV → T) : T := br (decide ((24 : Int) * (↑l.length : Int) ≤ (281474976710656 : Int)) && decide ((↑l.length : Int) ≤ (4611686018427387904 : Int))) (br ((Iter (tuple_sorted_A_l0_step l (↑l.length : Int)) ((0 : Nat), (0 : Int), [])).isSome) (br ((tuple_sorted_A_v1 l).isSome) (br (decide ((0 : Nat) + tuple_sorted_A_v2 l ≤ (tuple_sorted_A_v0 l).length) && true) (κ (List.take (tuple_sorted_A_v2 l) (List.drop (0 : Nat) (tuple_sorted_A_v0 l)))) (δ)) (δ)) (δ)) (δ)
noncomputable def tuple_sorted_A (l : List AV) : Option (List AV) := tuple_sorted_A_t l none some
theorem tuple_sorted_A_x (l : List AV) : Enc (fun (p : List AV) => ((AV.list (1 : Nat) p) : AV)) (tuple_sorted_A l) (XF Tryd.prog tuple_sorted_A_E1 Tryd.f37 (Tryd.f37.body.getD .skip) [AV.list (1 : Nat) l, AV.func (10 : FuncId) []]) := by
  have h : XF Tryd.prog tuple_sorted_A_E1 Tryd.f37 (Tryd.f37.body.getD .skip) [AV.list (1 : Nat) l, AV.func (10 : FuncId) []] = tuple_sorted_A_t l none (fun (p : List AV) => some ((AV.list (1 : Nat) p) : AV)) := by kernel_rfl
  rw [h]; unfold tuple_sorted_A tuple_sorted_A_t; repeat' (first | exact Enc.none | exact Enc.some rfl | refine Enc.br ?_ ?_)
noncomputable def tuple_sorted_A_o : List AV → Option (Bool × AV) := ocOf (sCons (sList (1 : Nat) pAny) (sCons (sEq (pFunc (10 : FuncId) pNil)) sNil)) fun (l, (_, _)) => ((tuple_sorted_A l).isSome, (AV.list (1 : Nat) ((tuple_sorted_A l).getD [])))
theorem tuple_sorted_A_c : OcOk Tryd.prog ITryd 37 (tuple_sorted_A_o) := ocOk_of fun vv rr hh => by
  obtain ⟨l, ⟨_, _⟩⟩ := vv
  obtain ⟨hh1, hh2⟩ := Prod.mk.inj hh
  refine good_pin (p := tuple_sorted_A_E1.pin) (good_XF mxTryd (inv0Ok Tryd.prog _) rfl tuple_sorted_A_E1_ok Tryd.func37 rfl (by kernel_rfl) tuple_sorted_A_E1_lk37 ((tuple_sorted_A_x _ _ (getD_of_isSome (d := []) hh1)).trans ?_))
  exact congrArg some hh2


noncomputable def EL5_3 : Env := EL5_2.with 37 tuple_sorted_A_o

theorem EL5_3_ok : OrcOk Tryd.prog ITryd EL5_3 := EL5_2_ok.with tuple_sorted_A_c

/-- The environment of bitemporal/tuple.Sort: its loops so far. -/

noncomputable def tuple_Sort_E0 : Env := EL5_3.fn 5 0 (lsOf []) (lpsOf [])

theorem tuple_Sort_E0_ok : OrcOk Tryd.prog (ITryd.at 0) tuple_Sort_E0 := EL5_3_ok.fn

theorem tuple_Sort_E0_lk23 : LoOk Tryd.prog (ITryd.at tuple_Sort_E0.pin) tuple_Sort_E0 (Tryd.f23.body.getD .skip) := loOk_nil (by kernel_rfl)

/- 3 nodes -/
noncomputable def tuple_Sort_t {T : Type} (l : List AV) (δ : T) (κ : List AV → T) : T := br ((tuple_sorted_A l).isSome) (κ ((tuple_sorted_A l).getD [])) (δ)
noncomputable def tuple_Sort (l : List AV) : Option (List AV) := tuple_Sort_t l none some
theorem tuple_Sort_x (l : List AV) : Enc (fun (p : List AV) => ((AV.list (1 : Nat) p) : AV)) (tuple_Sort l) (XF Tryd.prog tuple_Sort_E0 Tryd.f23 (Tryd.f23.body.getD .skip) [AV.list (1 : Nat) l]) := by
  have h : XF Tryd.prog tuple_Sort_E0 Tryd.f23 (Tryd.f23.body.getD .skip) [AV.list (1 : Nat) l] = tuple_Sort_t l none (fun (p : List AV) => some ((AV.list (1 : Nat) p) : AV)) := by kernel_rfl
  rw [h]; unfold tuple_Sort tuple_Sort_t; repeat' (first | exact Enc.none | exact Enc.some rfl | refine Enc.br ?_ ?_)
noncomputable def tuple_Sort_o : List AV → Option (Bool × AV) := ocOf (sCons (sList (1 : Nat) pAny) sNil) fun (l, _) => ((tuple_Sort l).isSome, (AV.list (1 : Nat) ((tuple_Sort l).getD [])))
theorem tuple_Sort_c : OcOk Tryd.prog ITryd 23 (tuple_Sort_o) := ocOk_of fun vv rr hh => by
  obtain ⟨l, _⟩ := vv
  obtain ⟨hh1, hh2⟩ := Prod.mk.inj hh
  refine good_pin (p := tuple_Sort_E0.pin) (good_XF mxTryd (inv0Ok Tryd.prog _) rfl tuple_Sort_E0_ok Tryd.func23 rfl (by kernel_rfl) tuple_Sort_E0_lk23 ((tuple_Sort_x _ _ (getD_of_isSome (d := []) hh1)).trans ?_))
  exact congrArg some hh2


noncomputable def EL5_4 : Env := EL5_3.with 23 tuple_Sort_o

theorem EL5_4_ok : OrcOk Tryd.prog ITryd EL5_4 := EL5_3_ok.with tuple_Sort_c

noncomputable abbrev EL5 : Env := EL5_4

theorem EL5_ok : OrcOk Tryd.prog ITryd EL5 := EL5_4_ok

end Go.Sim.M
