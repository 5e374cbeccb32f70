/- Functions of the program as the executor found them: printed by program, checked by the kernel. -/
import Derived.Test.YtlapjnnkblbhdaaDoorL3
import Derived.Test.YtlapjnnkblbhdaaDoorPat
set_option linter.unusedVariables false
set_option linter.unusedSimpArgs false
set_option maxRecDepth 100000
namespace Go.Sim.M
open Go.RowKit Go.Proofs

/-- The environment of slices.insertionSortCmpFunc   bitemporal/api.Value : its loops so far. -/

noncomputable def slices_insertionSortCmpFunc_A_E0 : Env := EL3.fn 53 1 (lsOf [22]) (lpsOf [])

theorem slices_insertionSortCmpFunc_A_E0_ok : OrcOk Tryd.prog (ITryd.at 1) slices_insertionSortCmpFunc_A_E0 := EL3_ok.fn

theorem slices_insertionSortCmpFunc_A_E0_lk79_1 : LoOk Tryd.prog (ITryd.at slices_insertionSortCmpFunc_A_E0.pin) slices_insertionSortCmpFunc_A_E0 (loopAt Tryd.f79 1) := loOk_nil (by kernel_rfl)

/- 31 nodes -/
noncomputable def slices_insertionSortCmpFunc_A_l1_v0 (data : Nat) (j : Int) : Bool := decide ((0 : Int) ≤ IntKind.i64.wrap (j - (1 : Int))) && decide (IntKind.i64.wrap (j - (1 : Int)) < (↑data : Int))
noncomputable def slices_insertionSortCmpFunc_A_l1_v4 (j : Int) : Nat := (0 : Nat) + (IntKind.i64.wrap (j - (1 : Int))).toNat
noncomputable def slices_insertionSortCmpFunc_A_l1_v5 (data : Nat) (j : Int) : Bool := decide ((0 : Int) ≤ j) && decide (j < (↑data : Int))
noncomputable def slices_insertionSortCmpFunc_A_l1_v6 (j : Int) (data_xs : List AV) : Bool := decide ((0 : Nat) + j.toNat < data_xs.length)
noncomputable def slices_insertionSortCmpFunc_A_l1_v7 (j : Int) (data_xs : List AV) : List AV := ((data_xs.getD ((0 : Nat) + j.toNat) AV.top).cells.getD (0 : Nat) AV.top).toList
noncomputable def slices_insertionSortCmpFunc_A_l1_v1 (j : Int) (data_xs : List AV) : Bool := decide (slices_insertionSortCmpFunc_A_l1_v4 j < data_xs.length) && hasSh1 (Sh.list (3 : Nat)) ((data_xs.getD (slices_insertionSortCmpFunc_A_l1_v4 j) AV.top).cells.getD (0 : Nat) AV.top)
noncomputable def slices_insertionSortCmpFunc_A_l1_v2 (j : Int) (data_xs : List AV) : Bool := slices_insertionSortCmpFunc_A_l1_v6 j data_xs && hasSh1 (Sh.list (3 : Nat)) ((data_xs.getD ((0 : Nat) + j.toNat) AV.top).cells.getD (0 : Nat) AV.top)
noncomputable def slices_insertionSortCmpFunc_A_l1_v3 (j : Int) (data_xs : List AV) : List AV := ((data_xs.getD (slices_insertionSortCmpFunc_A_l1_v4 j) AV.top).cells.getD (0 : Nat) AV.top).toList
noncomputable def slices_insertionSortCmpFunc_A_l1_t {T : Type} (data : Nat) (a : Int) (b : Int) (i : Int) (j : Int) (data_xs : List AV) (δ : T) (κl : (Int × List AV) → T) (κr : (List AV) → T) : T := br (decide (j > a)) (br (slices_insertionSortCmpFunc_A_l1_v5 data j) (br (slices_insertionSortCmpFunc_A_l1_v2 j data_xs) (br (slices_insertionSortCmpFunc_A_l1_v0 data j) (br (slices_insertionSortCmpFunc_A_l1_v1 j data_xs) (br (tuple_Compare_pre (slices_insertionSortCmpFunc_A_l1_v7 j data_xs) (slices_insertionSortCmpFunc_A_l1_v3 j data_xs)) (br (decide (tuple_Compare (slices_insertionSortCmpFunc_A_l1_v7 j data_xs) (slices_insertionSortCmpFunc_A_l1_v3 j data_xs) < (0 : Int))) (br (slices_insertionSortCmpFunc_A_l1_v0 data j) (br (slices_insertionSortCmpFunc_A_l1_v1 j data_xs) (br (slices_insertionSortCmpFunc_A_l1_v5 data j) (br (slices_insertionSortCmpFunc_A_l1_v2 j data_xs) (br (slices_insertionSortCmpFunc_A_l1_v5 data j) (br (slices_insertionSortCmpFunc_A_l1_v6 j data_xs) (br (slices_insertionSortCmpFunc_A_l1_v0 data j) (br (decide (slices_insertionSortCmpFunc_A_l1_v4 j < (data_xs.set ((0 : Nat) + j.toNat) (AV.list (3 : Nat) (slices_insertionSortCmpFunc_A_l1_v3 j data_xs))).length)) (κl (IntKind.i64.wrap (j - (1 : Int)), (data_xs.set ((0 : Nat) + j.toNat) (AV.list (3 : Nat) (slices_insertionSortCmpFunc_A_l1_v3 j data_xs))).set (slices_insertionSortCmpFunc_A_l1_v4 j) (AV.list (3 : Nat) (slices_insertionSortCmpFunc_A_l1_v7 j data_xs)))) (δ)) (δ)) (δ)) (δ)) (δ)) (δ)) (δ)) (δ)) (κr (data_xs))) (δ)) (δ)) (δ)) (δ)) (δ)) (κr (data_xs))
noncomputable def slices_insertionSortCmpFunc_A_l1_step (data : Nat) (a : Int) (b : Int) (i : Int) : (Int × List AV) → Option ((Int × List AV) ⊕ (List AV)) := fun (j, data_xs) => slices_insertionSortCmpFunc_A_l1_t data a b i j data_xs none (fun s => some (.inl s)) (fun p => some (.inr p))
noncomputable def slices_insertionSortCmpFunc_A_l1_L (data : Nat) (a : Int) (b : Int) (i : Int) : (Int × List AV) → List AV × List Box := fun (j, data_xs) => ([AV.osl 0 0 0 data, AV.int IntKind.i64 a, AV.int IntKind.i64 b, AV.func (10 : Nat) [], AV.int IntKind.i64 i, AV.int IntKind.i64 j], [⟨0, (1 : Nat), (22 : Nat), data_xs, false, true⟩])
noncomputable def slices_insertionSortCmpFunc_A_l1_out (data : Nat) (a : Int) (b : Int) (i : Int) : (List AV) → LR := fun p => (.leaf (Exit.exit (2 : Nat)) [AV.osl 0 0 0 data, AV.int IntKind.i64 a, AV.int IntKind.i64 b, AV.func (10 : Nat) [], AV.int IntKind.i64 i] [⟨0, (1 : Nat), (22 : Nat), p, false, true⟩])
noncomputable abbrev slices_insertionSortCmpFunc_A_l1_X (vals : List AV) (H : List Box) := XR Tryd.prog slices_insertionSortCmpFunc_A_E0 [0, 1, 2, 3, 8, 9] [0, 1, 2, 3, 8] [] (loopAt Tryd.f79 1) vals H
theorem slices_insertionSortCmpFunc_A_l1_r (data : Nat) (a : Int) (b : Int) (i : Int) (s : Int × List AV) : Enc (encR (slices_insertionSortCmpFunc_A_l1_L data a b i) (slices_insertionSortCmpFunc_A_l1_out data a b i)) (slices_insertionSortCmpFunc_A_l1_step data a b i s) (slices_insertionSortCmpFunc_A_l1_X (slices_insertionSortCmpFunc_A_l1_L data a b i s).1 (slices_insertionSortCmpFunc_A_l1_L data a b i s).2) := by
  obtain ⟨j, data_xs⟩ := s
  have h : slices_insertionSortCmpFunc_A_l1_X (slices_insertionSortCmpFunc_A_l1_L data a b i (j, data_xs)).1 (slices_insertionSortCmpFunc_A_l1_L data a b i (j, data_xs)).2 = slices_insertionSortCmpFunc_A_l1_t data a b i j data_xs none (fun s => some (encR (slices_insertionSortCmpFunc_A_l1_L data a b i) (slices_insertionSortCmpFunc_A_l1_out data a b i) (.inl s))) (fun p => some (encR (slices_insertionSortCmpFunc_A_l1_L data a b i) (slices_insertionSortCmpFunc_A_l1_out data a b i) (.inr p))) := by kernel_rfl
  rw [h]; unfold slices_insertionSortCmpFunc_A_l1_step slices_insertionSortCmpFunc_A_l1_t; repeat' (first | exact Enc.none | exact Enc.some rfl | refine Enc.br ?_ ?_)
noncomputable def slices_insertionSortCmpFunc_A_l1_lp : Lp := lpOf [0, 1, 2, 3, 8, 9] [0, 1, 2, 3, 8] [] (pCons (pOsl (0 : Nat) (0 : Nat) (0 : Nat)) (pCons (pInt IntKind.i64) (pCons (pInt IntKind.i64) (pCons (pFunc (10 : Nat) pNil) (pCons (pInt IntKind.i64) (pCons (pInt IntKind.i64) pNil)))))) (pCons (pBox (0 : Nat) (1 : Nat) (22 : Nat) false true pAny) pNil) fun (data, (a, (b, (_, (i, (j, _)))))) (data_xs, _) => ((Iter (slices_insertionSortCmpFunc_A_l1_step data a b i) (j, data_xs)).isSome, slices_insertionSortCmpFunc_A_l1_out data a b i ((Iter (slices_insertionSortCmpFunc_A_l1_step data a b i) (j, data_xs)).getD []))
theorem slices_insertionSortCmpFunc_A_l1_lok : LoopOk Tryd.prog (ITryd.at slices_insertionSortCmpFunc_A_E0.pin) slices_insertionSortCmpFunc_A_E0.nt (loopAt Tryd.f79 1) slices_insertionSortCmpFunc_A_l1_lp := lok_of fun vv bb rr hh => by
  obtain ⟨data, ⟨a, ⟨b, ⟨_, ⟨i, ⟨j, _⟩⟩⟩⟩⟩⟩ := vv
  obtain ⟨data_xs, _⟩ := bb
  obtain ⟨hh1, rfl⟩ := Prod.mk.inj hh
  exact loop_of_XR mxTryd (inv0Ok Tryd.prog _) rfl slices_insertionSortCmpFunc_A_E0_ok slices_insertionSortCmpFunc_A_E0_lk79_1 (slices_insertionSortCmpFunc_A_l1_L data a b i) (slices_insertionSortCmpFunc_A_l1_out data a b i) (fun p => by simp only [slices_insertionSortCmpFunc_A_l1_out, LR.eval]; first | (simp; done) | (repeat' split <;> simp)) (slices_insertionSortCmpFunc_A_l1_r data a b i) (s := (j, data_xs)) (getD_of_isSome hh1)


/-- The environment of slices.insertionSortCmpFunc   bitemporal/api.Value : its loops so far. -/

noncomputable def slices_insertionSortCmpFunc_A_E1 : Env := EL3.fn 53 1 (lsOf [22]) (lpsOf [(4, slices_insertionSortCmpFunc_A_l1_lp)])

theorem slices_insertionSortCmpFunc_A_E1_ok : OrcOk Tryd.prog (ITryd.at 1) slices_insertionSortCmpFunc_A_E1 := EL3_ok.fn

theorem slices_insertionSortCmpFunc_A_E1_lk79_0 : LoOk Tryd.prog (ITryd.at slices_insertionSortCmpFunc_A_E1.pin) slices_insertionSortCmpFunc_A_E1 (loopAt Tryd.f79 0) := loOk_all (ls := [loopAt Tryd.f79 1]) (by kernel_rfl) (fun l hl lp hs => by
  simp only [List.mem_cons, List.not_mem_nil, or_false] at hl
  rcases hl with rfl
  · rw [show slices_insertionSortCmpFunc_A_E1.lp (codeId (loopAt Tryd.f79 1)) = some slices_insertionSortCmpFunc_A_l1_lp by kernel_rfl] at hs
    simp only [Option.some.injEq] at hs; subst hs; exact slices_insertionSortCmpFunc_A_l1_lok)

/- 5 nodes -/
noncomputable def slices_insertionSortCmpFunc_A_l0_t {T : Type} (data : Nat) (a : Int) (b : Int) (i : Int) (data_xs : List AV) (δ : T) (κl : (Int × List AV) → T) (κr : (List AV) → T) : T := br (decide (i < b)) (br ((Iter (slices_insertionSortCmpFunc_A_l1_step data a b i) (i, data_xs)).isSome) (κl (IntKind.i64.wrap (i + (1 : Int)), (Iter (slices_insertionSortCmpFunc_A_l1_step data a b i) (i, data_xs)).getD [])) (δ)) (κr (data_xs))
noncomputable def slices_insertionSortCmpFunc_A_l0_step (data : Nat) (a : Int) (b : Int) : (Int × List AV) → Option ((Int × List AV) ⊕ (List AV)) := fun (i, data_xs) => slices_insertionSortCmpFunc_A_l0_t data a b i data_xs none (fun s => some (.inl s)) (fun p => some (.inr p))
noncomputable def slices_insertionSortCmpFunc_A_l0_L (data : Nat) (a : Int) (b : Int) : (Int × List AV) → List AV × List Box := fun (i, data_xs) => ([AV.osl 0 0 0 data, AV.int IntKind.i64 a, AV.int IntKind.i64 b, AV.func (10 : Nat) [], AV.int IntKind.i64 i], [⟨0, (1 : Nat), (22 : Nat), data_xs, false, true⟩])
noncomputable def slices_insertionSortCmpFunc_A_l0_out (data : Nat) (a : Int) (b : Int) : (List AV) → LR := fun p => (.leaf (Exit.exit (0 : Nat)) [] [⟨0, (1 : Nat), (22 : Nat), p, false, true⟩])
noncomputable abbrev slices_insertionSortCmpFunc_A_l0_X (vals : List AV) (H : List Box) := XR Tryd.prog slices_insertionSortCmpFunc_A_E1 [0, 1, 2, 3, 8] [] [] (loopAt Tryd.f79 0) vals H
theorem slices_insertionSortCmpFunc_A_l0_r (data : Nat) (a : Int) (b : Int) (s : Int × List AV) : Enc (encR (slices_insertionSortCmpFunc_A_l0_L data a b) (slices_insertionSortCmpFunc_A_l0_out data a b)) (slices_insertionSortCmpFunc_A_l0_step data a b s) (slices_insertionSortCmpFunc_A_l0_X (slices_insertionSortCmpFunc_A_l0_L data a b s).1 (slices_insertionSortCmpFunc_A_l0_L data a b s).2) := by
  obtain ⟨i, data_xs⟩ := s
  have h : slices_insertionSortCmpFunc_A_l0_X (slices_insertionSortCmpFunc_A_l0_L data a b (i, data_xs)).1 (slices_insertionSortCmpFunc_A_l0_L data a b (i, data_xs)).2 = slices_insertionSortCmpFunc_A_l0_t data a b i data_xs none (fun s => some (encR (slices_insertionSortCmpFunc_A_l0_L data a b) (slices_insertionSortCmpFunc_A_l0_out data a b) (.inl s))) (fun p => some (encR (slices_insertionSortCmpFunc_A_l0_L data a b) (slices_insertionSortCmpFunc_A_l0_out data a b) (.inr p))) := by kernel_rfl
  rw [h]; unfold slices_insertionSortCmpFunc_A_l0_step slices_insertionSortCmpFunc_A_l0_t; repeat' (first | exact Enc.none | exact Enc.some rfl | refine Enc.br ?_ ?_)
noncomputable def slices_insertionSortCmpFunc_A_l0_lp : Lp := lpOf [0, 1, 2, 3, 8] [] [] (pCons (pOsl (0 : Nat) (0 : Nat) (0 : Nat)) (pCons (pInt IntKind.i64) (pCons (pInt IntKind.i64) (pCons (pFunc (10 : Nat) pNil) (pCons (pInt IntKind.i64) pNil))))) (pCons (pBox (0 : Nat) (1 : Nat) (22 : Nat) false true pAny) pNil) fun (data, (a, (b, (_, (i, _))))) (data_xs, _) => ((Iter (slices_insertionSortCmpFunc_A_l0_step data a b) (i, data_xs)).isSome, slices_insertionSortCmpFunc_A_l0_out data a b ((Iter (slices_insertionSortCmpFunc_A_l0_step data a b) (i, data_xs)).getD []))
theorem slices_insertionSortCmpFunc_A_l0_lok : LoopOk Tryd.prog (ITryd.at slices_insertionSortCmpFunc_A_E1.pin) slices_insertionSortCmpFunc_A_E1.nt (loopAt Tryd.f79 0) slices_insertionSortCmpFunc_A_l0_lp := lok_of fun vv bb rr hh => by
  obtain ⟨data, ⟨a, ⟨b, ⟨_, ⟨i, _⟩⟩⟩⟩⟩ := vv
  obtain ⟨data_xs, _⟩ := bb
  obtain ⟨hh1, rfl⟩ := Prod.mk.inj hh
  exact loop_of_XR mxTryd (inv0Ok Tryd.prog _) rfl slices_insertionSortCmpFunc_A_E1_ok slices_insertionSortCmpFunc_A_E1_lk79_0 (slices_insertionSortCmpFunc_A_l0_L data a b) (slices_insertionSortCmpFunc_A_l0_out data a b) (fun p => by simp only [slices_insertionSortCmpFunc_A_l0_out, LR.eval]; first | (simp; done) | (repeat' split <;> simp)) (slices_insertionSortCmpFunc_A_l0_r data a b) (s := (i, data_xs)) (getD_of_isSome hh1)


/-- The environment of slices.insertionSortCmpFunc   bitemporal/api.Value : its loops so far. -/

noncomputable def slices_insertionSortCmpFunc_A_E2 : Env := EL3.fn 53 1 (lsOf [22]) (lpsOf [(4, slices_insertionSortCmpFunc_A_l1_lp), (1, slices_insertionSortCmpFunc_A_l0_lp)])

theorem slices_insertionSortCmpFunc_A_E2_ok : OrcOk Tryd.prog (ITryd.at 1) slices_insertionSortCmpFunc_A_E2 := EL3_ok.fn

theorem slices_insertionSortCmpFunc_A_E2_lk79 : LoOk Tryd.prog (ITryd.at slices_insertionSortCmpFunc_A_E2.pin) slices_insertionSortCmpFunc_A_E2 (Tryd.f79.body.getD .skip) := loOk_all (ls := [loopAt Tryd.f79 0, loopAt Tryd.f79 1]) (by kernel_rfl) (fun l hl lp hs => by
  simp only [List.mem_cons, List.not_mem_nil, or_false] at hl
  rcases hl with rfl | rfl
  · rw [show slices_insertionSortCmpFunc_A_E2.lp (codeId (loopAt Tryd.f79 0)) = some slices_insertionSortCmpFunc_A_l0_lp by kernel_rfl] at hs
    simp only [Option.some.injEq] at hs; subst hs; exact slices_insertionSortCmpFunc_A_l0_lok
  · rw [show slices_insertionSortCmpFunc_A_E2.lp (codeId (loopAt Tryd.f79 1)) = some slices_insertionSortCmpFunc_A_l1_lp by kernel_rfl] at hs
    simp only [Option.some.injEq] at hs; subst hs; exact slices_insertionSortCmpFunc_A_l1_lok)

/- 3 nodes -/
noncomputable def slices_insertionSortCmpFunc_A_t {T : Type} (n : Nat) (a : Int) (b : Int) (xs : List AV) (δ : T) (κ : List AV → T) : T := br ((Iter (slices_insertionSortCmpFunc_A_l0_step n a b) (IntKind.i64.wrap (a + (1 : Int)), xs)).isSome) (κ ((Iter (slices_insertionSortCmpFunc_A_l0_step n a b) (IntKind.i64.wrap (a + (1 : Int)), xs)).getD [])) (δ)
noncomputable def slices_insertionSortCmpFunc_A (n : Nat) (a : Int) (b : Int) (xs : List AV) : Option (List AV) := slices_insertionSortCmpFunc_A_t n a b xs none some
theorem slices_insertionSortCmpFunc_A_x (n : Nat) (a : Int) (b : Int) (xs : List AV) : Enc (fun (p : List AV) => (((AV.tuple [], ([⟨0, (1 : Nat), (22 : Nat), p, false, true⟩] : List Box))) : (AV × List Box))) (slices_insertionSortCmpFunc_A n a b xs) (XFM Tryd.prog slices_insertionSortCmpFunc_A_E2 Tryd.f79 (Tryd.f79.body.getD .skip) [AV.osl (0 : Nat) (0 : Nat) (0 : Nat) n, AV.int IntKind.i64 a, AV.int IntKind.i64 b, AV.func (10 : FuncId) []] [{ ver := (0 : Nat), sz := (1 : Nat), ty := (22 : TypeId), xs := xs, frz := false, pm := true }]) := by
  have h : XFM Tryd.prog slices_insertionSortCmpFunc_A_E2 Tryd.f79 (Tryd.f79.body.getD .skip) [AV.osl (0 : Nat) (0 : Nat) (0 : Nat) n, AV.int IntKind.i64 a, AV.int IntKind.i64 b, AV.func (10 : FuncId) []] [{ ver := (0 : Nat), sz := (1 : Nat), ty := (22 : TypeId), xs := xs, frz := false, pm := true }] = slices_insertionSortCmpFunc_A_t n a b xs none (fun (p : List AV) => some (((AV.tuple [], ([⟨0, (1 : Nat), (22 : Nat), p, false, true⟩] : List Box))) : (AV × List Box))) := by kernel_rfl
  rw [h]; unfold slices_insertionSortCmpFunc_A slices_insertionSortCmpFunc_A_t; repeat' (first | exact Enc.none | exact Enc.some rfl | refine Enc.br ?_ ?_)
noncomputable def slices_insertionSortCmpFunc_A_o : List AV → List Box → Option (Bool × AV × List Box) := omOf (sCons (sEq (pOsl (0 : Nat) (0 : Nat) (0 : Nat))) (sCons (sEq (pInt IntKind.i64)) (sCons (sEq (pInt IntKind.i64)) (sCons (sEq (pFunc (10 : FuncId) pNil)) sNil)))) (pCons (pBox (0 : Nat) (1 : Nat) (22 : TypeId) false true pAny) pNil) fun (n, (a, (b, (_, _)))) (xs, _) => ((slices_insertionSortCmpFunc_A n a b xs).isSome, ((AV.tuple [], ([⟨0, (1 : Nat), (22 : Nat), ((slices_insertionSortCmpFunc_A n a b xs).getD []), false, true⟩] : List Box))))
theorem slices_insertionSortCmpFunc_A_c : OmOk Tryd.prog ITryd 79 (slices_insertionSortCmpFunc_A_o) := omOk_of fun vv bb rr hh' hh => by
  obtain ⟨n, ⟨a, ⟨b, ⟨_, _⟩⟩⟩⟩ := vv
  obtain ⟨xs, _⟩ := bb
  obtain ⟨hh1, hh2⟩ := Prod.mk.inj hh
  refine goodM_pin (p := slices_insertionSortCmpFunc_A_E2.pin) (goodM_XFM mxTryd (inv0Ok Tryd.prog _) rfl slices_insertionSortCmpFunc_A_E2_ok rfl Tryd.func79 rfl (by kernel_rfl) slices_insertionSortCmpFunc_A_E2_lk79 ((slices_insertionSortCmpFunc_A_x _ _ _ _ _ (getD_of_isSome (d := []) hh1)).trans ?_))
  exact congrArg some hh2


noncomputable def EL4_1 : Env := EL3.withM 79 slices_insertionSortCmpFunc_A_o

theorem EL4_1_ok : OrcOk Tryd.prog ITryd EL4_1 := EL3_ok.withM slices_insertionSortCmpFunc_A_c

/-- The environment of slices.swapRangeCmpFunc   bitemporal/api.Value : its loops so far. -/

noncomputable def slices_swapRangeCmpFunc_A_E0 : Env := EL4_1.fn 38 1 (lsOf [22]) (lpsOf [])

theorem slices_swapRangeCmpFunc_A_E0_ok : OrcOk Tryd.prog (ITryd.at 1) slices_swapRangeCmpFunc_A_E0 := EL4_1_ok.fn

theorem slices_swapRangeCmpFunc_A_E0_lk96_0 : LoOk Tryd.prog (ITryd.at slices_swapRangeCmpFunc_A_E0.pin) slices_swapRangeCmpFunc_A_E0 (loopAt Tryd.f96 0) := loOk_nil (by kernel_rfl)

/- 19 nodes -/
noncomputable def slices_swapRangeCmpFunc_A_l0_v0 (a : Int) (i : Int) (data_xs : List AV) : Bool := decide ((0 : Nat) + (IntKind.i64.wrap (a + i)).toNat < data_xs.length)
noncomputable def slices_swapRangeCmpFunc_A_l0_v1 (data : Nat) (a : Int) (i : Int) : Bool := decide ((0 : Int) ≤ IntKind.i64.wrap (a + i)) && decide (IntKind.i64.wrap (a + i) < (↑data : Int))
noncomputable def slices_swapRangeCmpFunc_A_l0_v2 (data : Nat) (b : Int) (i : Int) : Bool := decide ((0 : Int) ≤ IntKind.i64.wrap (b + i)) && decide (IntKind.i64.wrap (b + i) < (↑data : Int))
noncomputable def slices_swapRangeCmpFunc_A_l0_v4 (b : Int) (i : Int) : Nat := (0 : Nat) + (IntKind.i64.wrap (b + i)).toNat
noncomputable def slices_swapRangeCmpFunc_A_l0_v3 (a : Int) (b : Int) (i : Int) (data_xs : List AV) : List AV := data_xs.set ((0 : Nat) + (IntKind.i64.wrap (a + i)).toNat) (AV.list (3 : Nat) ((data_xs.getD (slices_swapRangeCmpFunc_A_l0_v4 b i) AV.top).cells.getD (0 : Nat) AV.top).toList)
noncomputable def slices_swapRangeCmpFunc_A_l0_t {T : Type} (data : Nat) (a : Int) (b : Int) (n : Int) (i : Int) (data_xs : List AV) (δ : T) (κl : (Int × List AV) → T) (κr : (List AV) → T) : T := br (decide (i < n)) (br (slices_swapRangeCmpFunc_A_l0_v2 data b i) (br (decide (slices_swapRangeCmpFunc_A_l0_v4 b i < data_xs.length) && hasSh1 (Sh.list (3 : Nat)) ((data_xs.getD (slices_swapRangeCmpFunc_A_l0_v4 b i) AV.top).cells.getD (0 : Nat) AV.top)) (br (slices_swapRangeCmpFunc_A_l0_v1 data a i) (br (slices_swapRangeCmpFunc_A_l0_v0 a i data_xs && hasSh1 (Sh.list (3 : Nat)) ((data_xs.getD ((0 : Nat) + (IntKind.i64.wrap (a + i)).toNat) AV.top).cells.getD (0 : Nat) AV.top)) (br (slices_swapRangeCmpFunc_A_l0_v1 data a i) (br (slices_swapRangeCmpFunc_A_l0_v0 a i data_xs) (br (slices_swapRangeCmpFunc_A_l0_v2 data b i) (br (decide (slices_swapRangeCmpFunc_A_l0_v4 b i < (slices_swapRangeCmpFunc_A_l0_v3 a b i data_xs).length)) (κl (IntKind.i64.wrap (i + (1 : Int)), (slices_swapRangeCmpFunc_A_l0_v3 a b i data_xs).set (slices_swapRangeCmpFunc_A_l0_v4 b i) (AV.list (3 : Nat) ((data_xs.getD ((0 : Nat) + (IntKind.i64.wrap (a + i)).toNat) AV.top).cells.getD (0 : Nat) AV.top).toList))) (δ)) (δ)) (δ)) (δ)) (δ)) (δ)) (δ)) (δ)) (κr (data_xs))
noncomputable def slices_swapRangeCmpFunc_A_l0_step (data : Nat) (a : Int) (b : Int) (n : Int) : (Int × List AV) → Option ((Int × List AV) ⊕ (List AV)) := fun (i, data_xs) => slices_swapRangeCmpFunc_A_l0_t data a b n i data_xs none (fun s => some (.inl s)) (fun p => some (.inr p))
noncomputable def slices_swapRangeCmpFunc_A_l0_L (data : Nat) (a : Int) (b : Int) (n : Int) : (Int × List AV) → List AV × List Box := fun (i, data_xs) => ([AV.osl 0 0 0 data, AV.int IntKind.i64 a, AV.int IntKind.i64 b, AV.int IntKind.i64 n, AV.int IntKind.i64 i], [⟨0, (1 : Nat), (22 : Nat), data_xs, false, true⟩])
noncomputable def slices_swapRangeCmpFunc_A_l0_out (data : Nat) (a : Int) (b : Int) (n : Int) : (List AV) → LR := fun p => (.leaf (Exit.exit (0 : Nat)) [] [⟨0, (1 : Nat), (22 : Nat), p, false, true⟩])
noncomputable abbrev slices_swapRangeCmpFunc_A_l0_X (vals : List AV) (H : List Box) := XR Tryd.prog slices_swapRangeCmpFunc_A_E0 [0, 1, 2, 3, 10] [] [] (loopAt Tryd.f96 0) vals H
theorem slices_swapRangeCmpFunc_A_l0_r (data : Nat) (a : Int) (b : Int) (n : Int) (s : Int × List AV) : Enc (encR (slices_swapRangeCmpFunc_A_l0_L data a b n) (slices_swapRangeCmpFunc_A_l0_out data a b n)) (slices_swapRangeCmpFunc_A_l0_step data a b n s) (slices_swapRangeCmpFunc_A_l0_X (slices_swapRangeCmpFunc_A_l0_L data a b n s).1 (slices_swapRangeCmpFunc_A_l0_L data a b n s).2) := by
  obtain ⟨i, data_xs⟩ := s
  have h : slices_swapRangeCmpFunc_A_l0_X (slices_swapRangeCmpFunc_A_l0_L data a b n (i, data_xs)).1 (slices_swapRangeCmpFunc_A_l0_L data a b n (i, data_xs)).2 = slices_swapRangeCmpFunc_A_l0_t data a b n i data_xs none (fun s => some (encR (slices_swapRangeCmpFunc_A_l0_L data a b n) (slices_swapRangeCmpFunc_A_l0_out data a b n) (.inl s))) (fun p => some (encR (slices_swapRangeCmpFunc_A_l0_L data a b n) (slices_swapRangeCmpFunc_A_l0_out data a b n) (.inr p))) := by kernel_rfl
  rw [h]; unfold slices_swapRangeCmpFunc_A_l0_step slices_swapRangeCmpFunc_A_l0_t; repeat' (first | exact Enc.none | exact Enc.some rfl | refine Enc.br ?_ ?_)
noncomputable def slices_swapRangeCmpFunc_A_l0_lp : Lp := lpOf [0, 1, 2, 3, 10] [] [] (pCons (pOsl (0 : Nat) (0 : Nat) (0 : Nat)) (pCons (pInt IntKind.i64) (pCons (pInt IntKind.i64) (pCons (pInt IntKind.i64) (pCons (pInt IntKind.i64) pNil))))) (pCons (pBox (0 : Nat) (1 : Nat) (22 : Nat) false true pAny) pNil) fun (data, (a, (b, (n, (i, _))))) (data_xs, _) => ((Iter (slices_swapRangeCmpFunc_A_l0_step data a b n) (i, data_xs)).isSome, slices_swapRangeCmpFunc_A_l0_out data a b n ((Iter (slices_swapRangeCmpFunc_A_l0_step data a b n) (i, data_xs)).getD []))
theorem slices_swapRangeCmpFunc_A_l0_lok : LoopOk Tryd.prog (ITryd.at slices_swapRangeCmpFunc_A_E0.pin) slices_swapRangeCmpFunc_A_E0.nt (loopAt Tryd.f96 0) slices_swapRangeCmpFunc_A_l0_lp := lok_of fun vv bb rr hh => by
  obtain ⟨data, ⟨a, ⟨b, ⟨n, ⟨i, _⟩⟩⟩⟩⟩ := vv
  obtain ⟨data_xs, _⟩ := bb
  obtain ⟨hh1, rfl⟩ := Prod.mk.inj hh
  exact loop_of_XR mxTryd (inv0Ok Tryd.prog _) rfl slices_swapRangeCmpFunc_A_E0_ok slices_swapRangeCmpFunc_A_E0_lk96_0 (slices_swapRangeCmpFunc_A_l0_L data a b n) (slices_swapRangeCmpFunc_A_l0_out data a b n) (fun p => by simp only [slices_swapRangeCmpFunc_A_l0_out, LR.eval]; first | (simp; done) | (repeat' split <;> simp)) (slices_swapRangeCmpFunc_A_l0_r data a b n) (s := (i, data_xs)) (getD_of_isSome hh1)


/-- The environment of slices.swapRangeCmpFunc   bitemporal/api.Value : its loops so far. -/

noncomputable def slices_swapRangeCmpFunc_A_E1 : Env := EL4_1.fn 38 1 (lsOf [22]) (lpsOf [(1, slices_swapRangeCmpFunc_A_l0_lp)])

theorem slices_swapRangeCmpFunc_A_E1_ok : OrcOk Tryd.prog (ITryd.at 1) slices_swapRangeCmpFunc_A_E1 := EL4_1_ok.fn

theorem slices_swapRangeCmpFunc_A_E1_lk96 : LoOk Tryd.prog (ITryd.at slices_swapRangeCmpFunc_A_E1.pin) slices_swapRangeCmpFunc_A_E1 (Tryd.f96.body.getD .skip) := loOk_all (ls := [loopAt Tryd.f96 0]) (by kernel_rfl) (fun l hl lp hs => by
  simp only [List.mem_cons, List.not_mem_nil, or_false] at hl
  rcases hl with rfl
  · rw [show slices_swapRangeCmpFunc_A_E1.lp (codeId (loopAt Tryd.f96 0)) = some slices_swapRangeCmpFunc_A_l0_lp by kernel_rfl] at hs
    simp only [Option.some.injEq] at hs; subst hs; exact slices_swapRangeCmpFunc_A_l0_lok)

/- 3 nodes -/
noncomputable def slices_swapRangeCmpFunc_A_t {T : Type} (n : Nat) (a : Int) (b : Int) (k : Int) (xs : List AV) (δ : T) (κ : List AV → T) : T := br ((Iter (slices_swapRangeCmpFunc_A_l0_step n a b k) ((0 : Int), xs)).isSome) (κ ((Iter (slices_swapRangeCmpFunc_A_l0_step n a b k) ((0 : Int), xs)).getD [])) (δ)
noncomputable def slices_swapRangeCmpFunc_A (n : Nat) (a : Int) (b : Int) (k : Int) (xs : List AV) : Option (List AV) := slices_swapRangeCmpFunc_A_t n a b k xs none some
theorem slices_swapRangeCmpFunc_A_x (n : Nat) (a : Int) (b : Int) (k : Int) (xs : List AV) : Enc (fun (p : List AV) => (((AV.tuple [], ([⟨0, (1 : Nat), (22 : Nat), p, false, true⟩] : List Box))) : (AV × List Box))) (slices_swapRangeCmpFunc_A n a b k xs) (XFM Tryd.prog slices_swapRangeCmpFunc_A_E1 Tryd.f96 (Tryd.f96.body.getD .skip) [AV.osl (0 : Nat) (0 : Nat) (0 : Nat) n, AV.int IntKind.i64 a, AV.int IntKind.i64 b, AV.int IntKind.i64 k, AV.func (10 : FuncId) []] [{ ver := (0 : Nat), sz := (1 : Nat), ty := (22 : TypeId), xs := xs, frz := false, pm := true }]) := by
  have h : XFM Tryd.prog slices_swapRangeCmpFunc_A_E1 Tryd.f96 (Tryd.f96.body.getD .skip) [AV.osl (0 : Nat) (0 : Nat) (0 : Nat) n, AV.int IntKind.i64 a, AV.int IntKind.i64 b, AV.int IntKind.i64 k, AV.func (10 : FuncId) []] [{ ver := (0 : Nat), sz := (1 : Nat), ty := (22 : TypeId), xs := xs, frz := false, pm := true }] = slices_swapRangeCmpFunc_A_t n a b k xs none (fun (p : List AV) => some (((AV.tuple [], ([⟨0, (1 : Nat), (22 : Nat), p, false, true⟩] : List Box))) : (AV × List Box))) := by kernel_rfl
  rw [h]; unfold slices_swapRangeCmpFunc_A slices_swapRangeCmpFunc_A_t; repeat' (first | exact Enc.none | exact Enc.some rfl | refine Enc.br ?_ ?_)
noncomputable def slices_swapRangeCmpFunc_A_o : List AV → List Box → Option (Bool × AV × List Box) := omOf (sCons (sEq (pOsl (0 : Nat) (0 : Nat) (0 : Nat))) (sCons (sEq (pInt IntKind.i64)) (sCons (sEq (pInt IntKind.i64)) (sCons (sEq (pInt IntKind.i64)) (sCons (sEq (pFunc (10 : FuncId) pNil)) sNil))))) (pCons (pBox (0 : Nat) (1 : Nat) (22 : TypeId) false true pAny) pNil) fun (n, (a, (b, (k, (_, _))))) (xs, _) => ((slices_swapRangeCmpFunc_A n a b k xs).isSome, ((AV.tuple [], ([⟨0, (1 : Nat), (22 : Nat), ((slices_swapRangeCmpFunc_A n a b k xs).getD []), false, true⟩] : List Box))))
theorem slices_swapRangeCmpFunc_A_c : OmOk Tryd.prog ITryd 96 (slices_swapRangeCmpFunc_A_o) := omOk_of fun vv bb rr hh' hh => by
  obtain ⟨n, ⟨a, ⟨b, ⟨k, ⟨_, _⟩⟩⟩⟩⟩ := vv
  obtain ⟨xs, _⟩ := bb
  obtain ⟨hh1, hh2⟩ := Prod.mk.inj hh
  refine goodM_pin (p := slices_swapRangeCmpFunc_A_E1.pin) (goodM_XFM mxTryd (inv0Ok Tryd.prog _) rfl slices_swapRangeCmpFunc_A_E1_ok rfl Tryd.func96 rfl (by kernel_rfl) slices_swapRangeCmpFunc_A_E1_lk96 ((slices_swapRangeCmpFunc_A_x _ _ _ _ _ _ (getD_of_isSome (d := []) hh1)).trans ?_))
  exact congrArg some hh2


noncomputable def EL4_2 : Env := EL4_1.withM 96 slices_swapRangeCmpFunc_A_o

theorem EL4_2_ok : OrcOk Tryd.prog ITryd EL4_2 := EL4_1_ok.withM slices_swapRangeCmpFunc_A_c

/-- The environment of slices.rotateCmpFunc   bitemporal/api.Value : its loops so far. -/

noncomputable def slices_rotateCmpFunc_A_E0 : Env := EL4_2.fn 58 1 (lsOf [22]) (lpsOf [])

theorem slices_rotateCmpFunc_A_E0_ok : OrcOk Tryd.prog (ITryd.at 1) slices_rotateCmpFunc_A_E0 := EL4_2_ok.fn

theorem slices_rotateCmpFunc_A_E0_lk87_0 : LoOk Tryd.prog (ITryd.at slices_rotateCmpFunc_A_E0.pin) slices_rotateCmpFunc_A_E0 (loopAt Tryd.f87 0) := loOk_nil (by kernel_rfl)

/- 9 nodes -/
noncomputable def slices_rotateCmpFunc_A_l0_t {T : Type} (data : Nat) (m : Int) (i : Int) (j : Int) (data_xs : List AV) (δ : T) (κl : (Int × Int × List AV) → T) (κr : (Int × List AV) → T) : T := br (i != j) (br (decide (i > j)) (br ((slices_swapRangeCmpFunc_A data (IntKind.i64.wrap (m - i)) m j data_xs).isSome) (κl (IntKind.i64.wrap (i - j), j, (slices_swapRangeCmpFunc_A data (IntKind.i64.wrap (m - i)) m j data_xs).getD [])) (δ)) (br ((slices_swapRangeCmpFunc_A data (IntKind.i64.wrap (m - i)) (IntKind.i64.wrap (IntKind.i64.wrap (m + j) - i)) i data_xs).isSome) (κl (i, IntKind.i64.wrap (j - i), (slices_swapRangeCmpFunc_A data (IntKind.i64.wrap (m - i)) (IntKind.i64.wrap (IntKind.i64.wrap (m + j) - i)) i data_xs).getD [])) (δ))) (κr (i, data_xs))
noncomputable def slices_rotateCmpFunc_A_l0_step (data : Nat) (m : Int) : (Int × Int × List AV) → Option ((Int × Int × List AV) ⊕ (Int × List AV)) := fun (i, j, data_xs) => slices_rotateCmpFunc_A_l0_t data m i j data_xs none (fun s => some (.inl s)) (fun p => some (.inr p))
noncomputable def slices_rotateCmpFunc_A_l0_L (data : Nat) (m : Int) : (Int × Int × List AV) → List AV × List Box := fun (i, j, data_xs) => ([AV.osl 0 0 0 data, AV.int IntKind.i64 m, AV.func (10 : Nat) [], AV.int IntKind.i64 i, AV.int IntKind.i64 j], [⟨0, (1 : Nat), (22 : Nat), data_xs, false, true⟩])
noncomputable def slices_rotateCmpFunc_A_l0_out (data : Nat) (m : Int) : (Int × List AV) → LR := fun p => (.leaf (Exit.exit (0 : Nat)) [AV.osl 0 0 0 data, AV.int IntKind.i64 m, AV.func (10 : Nat) [], AV.int IntKind.i64 p.1] [⟨0, (1 : Nat), (22 : Nat), p.2, false, true⟩])
noncomputable abbrev slices_rotateCmpFunc_A_l0_X (vals : List AV) (H : List Box) := XR Tryd.prog slices_rotateCmpFunc_A_E0 [0, 2, 4, 10, 11] [0, 2, 4, 10] [] (loopAt Tryd.f87 0) vals H
theorem slices_rotateCmpFunc_A_l0_r (data : Nat) (m : Int) (s : Int × Int × List AV) : Enc (encR (slices_rotateCmpFunc_A_l0_L data m) (slices_rotateCmpFunc_A_l0_out data m)) (slices_rotateCmpFunc_A_l0_step data m s) (slices_rotateCmpFunc_A_l0_X (slices_rotateCmpFunc_A_l0_L data m s).1 (slices_rotateCmpFunc_A_l0_L data m s).2) := by
  obtain ⟨i, j, data_xs⟩ := s
  have h : slices_rotateCmpFunc_A_l0_X (slices_rotateCmpFunc_A_l0_L data m (i, j, data_xs)).1 (slices_rotateCmpFunc_A_l0_L data m (i, j, data_xs)).2 = slices_rotateCmpFunc_A_l0_t data m i j data_xs none (fun s => some (encR (slices_rotateCmpFunc_A_l0_L data m) (slices_rotateCmpFunc_A_l0_out data m) (.inl s))) (fun p => some (encR (slices_rotateCmpFunc_A_l0_L data m) (slices_rotateCmpFunc_A_l0_out data m) (.inr p))) := by kernel_rfl
  rw [h]; unfold slices_rotateCmpFunc_A_l0_step slices_rotateCmpFunc_A_l0_t; repeat' (first | exact Enc.none | exact Enc.some rfl | refine Enc.br ?_ ?_)
noncomputable def slices_rotateCmpFunc_A_l0_lp : Lp := lpOf [0, 2, 4, 10, 11] [0, 2, 4, 10] [] (pCons (pOsl (0 : Nat) (0 : Nat) (0 : Nat)) (pCons (pInt IntKind.i64) (pCons (pFunc (10 : Nat) pNil) (pCons (pInt IntKind.i64) (pCons (pInt IntKind.i64) pNil))))) (pCons (pBox (0 : Nat) (1 : Nat) (22 : Nat) false true pAny) pNil) fun (data, (m, (_, (i, (j, _))))) (data_xs, _) => ((Iter (slices_rotateCmpFunc_A_l0_step data m) (i, j, data_xs)).isSome, slices_rotateCmpFunc_A_l0_out data m ((Iter (slices_rotateCmpFunc_A_l0_step data m) (i, j, data_xs)).getD (0, [])))
theorem slices_rotateCmpFunc_A_l0_lok : LoopOk Tryd.prog (ITryd.at slices_rotateCmpFunc_A_E0.pin) slices_rotateCmpFunc_A_E0.nt (loopAt Tryd.f87 0) slices_rotateCmpFunc_A_l0_lp := lok_of fun vv bb rr hh => by
  obtain ⟨data, ⟨m, ⟨_, ⟨i, ⟨j, _⟩⟩⟩⟩⟩ := vv
  obtain ⟨data_xs, _⟩ := bb
  obtain ⟨hh1, rfl⟩ := Prod.mk.inj hh
  exact loop_of_XR mxTryd (inv0Ok Tryd.prog _) rfl slices_rotateCmpFunc_A_E0_ok slices_rotateCmpFunc_A_E0_lk87_0 (slices_rotateCmpFunc_A_l0_L data m) (slices_rotateCmpFunc_A_l0_out data m) (fun p => by simp only [slices_rotateCmpFunc_A_l0_out, LR.eval]; first | (simp; done) | (repeat' split <;> simp)) (slices_rotateCmpFunc_A_l0_r data m) (s := (i, j, data_xs)) (getD_of_isSome hh1)


/-- The environment of slices.rotateCmpFunc   bitemporal/api.Value : its loops so far. -/

noncomputable def slices_rotateCmpFunc_A_E1 : Env := EL4_2.fn 58 1 (lsOf [22]) (lpsOf [(2, slices_rotateCmpFunc_A_l0_lp)])

theorem slices_rotateCmpFunc_A_E1_ok : OrcOk Tryd.prog (ITryd.at 1) slices_rotateCmpFunc_A_E1 := EL4_2_ok.fn

theorem slices_rotateCmpFunc_A_E1_lk87 : LoOk Tryd.prog (ITryd.at slices_rotateCmpFunc_A_E1.pin) slices_rotateCmpFunc_A_E1 (Tryd.f87.body.getD .skip) := loOk_all (ls := [loopAt Tryd.f87 0]) (by kernel_rfl) (fun l hl lp hs => by
  simp only [List.mem_cons, List.not_mem_nil, or_false] at hl
  rcases hl with rfl
  · rw [show slices_rotateCmpFunc_A_E1.lp (codeId (loopAt Tryd.f87 0)) = some slices_rotateCmpFunc_A_l0_lp by kernel_rfl] at hs
    simp only [Option.some.injEq] at hs; subst hs; exact slices_rotateCmpFunc_A_l0_lok)

/- 5 nodes -/
noncomputable def slices_rotateCmpFunc_A_v3 (n : Nat) (a : Int) (m : Int) (b : Int) (xs : List AV) : Option (Int × List AV) := Iter (slices_rotateCmpFunc_A_l0_step n m) (IntKind.i64.wrap (m - a), IntKind.i64.wrap (b - m), xs)
noncomputable def slices_rotateCmpFunc_A_v2 (n : Nat) (a : Int) (m : Int) (b : Int) (xs : List AV) : Int × List AV := (slices_rotateCmpFunc_A_v3 n a m b xs).getD ((0 : Int), [])
noncomputable def slices_rotateCmpFunc_A_v1 (n : Nat) (a : Int) (m : Int) (b : Int) (xs : List AV) : Int := (slices_rotateCmpFunc_A_v2 n a m b xs).fst
noncomputable def slices_rotateCmpFunc_A_v0 (n : Nat) (a : Int) (m : Int) (b : Int) (xs : List AV) : Option (List AV) := slices_swapRangeCmpFunc_A n (IntKind.i64.wrap (m - slices_rotateCmpFunc_A_v1 n a m b xs)) m (slices_rotateCmpFunc_A_v1 n a m b xs) (slices_rotateCmpFunc_A_v2 n a m b xs).snd
noncomputable def slices_rotateCmpFunc_A_t {T : Type} (n : Nat) (a : Int) (m : Int) (b : Int) (xs : List AV) (δ : T) (κ : List AV → T) : T := br ((slices_rotateCmpFunc_A_v3 n a m b xs).isSome) (br ((slices_rotateCmpFunc_A_v0 n a m b xs).isSome) (κ ((slices_rotateCmpFunc_A_v0 n a m b xs).getD [])) (δ)) (δ)
noncomputable def slices_rotateCmpFunc_A (n : Nat) (a : Int) (m : Int) (b : Int) (xs : List AV) : Option (List AV) := slices_rotateCmpFunc_A_t n a m b xs none some
theorem slices_rotateCmpFunc_A_x (n : Nat) (a : Int) (m : Int) (b : Int) (xs : List AV) : Enc (fun (p : List AV) => (((AV.tuple [], ([⟨0, (1 : Nat), (22 : Nat), p, false, true⟩] : List Box))) : (AV × List Box))) (slices_rotateCmpFunc_A n a m b xs) (XFM Tryd.prog slices_rotateCmpFunc_A_E1 Tryd.f87 (Tryd.f87.body.getD .skip) [AV.osl (0 : Nat) (0 : Nat) (0 : Nat) n, AV.int IntKind.i64 a, AV.int IntKind.i64 m, AV.int IntKind.i64 b, AV.func (10 : FuncId) []] [{ ver := (0 : Nat), sz := (1 : Nat), ty := (22 : TypeId), xs := xs, frz := false, pm := true }]) := by
  have h : XFM Tryd.prog slices_rotateCmpFunc_A_E1 Tryd.f87 (Tryd.f87.body.getD .skip) [AV.osl (0 : Nat) (0 : Nat) (0 : Nat) n, AV.int IntKind.i64 a, AV.int IntKind.i64 m, AV.int IntKind.i64 b, AV.func (10 : FuncId) []] [{ ver := (0 : Nat), sz := (1 : Nat), ty := (22 : TypeId), xs := xs, frz := false, pm := true }] = slices_rotateCmpFunc_A_t n a m b xs none (fun (p : List AV) => some (((AV.tuple [], ([⟨0, (1 : Nat), (22 : Nat), p, false, true⟩] : List Box))) : (AV × List Box))) := by kernel_rfl
  rw [h]; unfold slices_rotateCmpFunc_A slices_rotateCmpFunc_A_t; repeat' (first | exact Enc.none | exact Enc.some rfl | refine Enc.br ?_ ?_)
noncomputable def slices_rotateCmpFunc_A_o : List AV → List Box → Option (Bool × AV × List Box) := omOf (sCons (sEq (pOsl (0 : Nat) (0 : Nat) (0 : Nat))) (sCons (sEq (pInt IntKind.i64)) (sCons (sEq (pInt IntKind.i64)) (sCons (sEq (pInt IntKind.i64)) (sCons (sEq (pFunc (10 : FuncId) pNil)) sNil))))) (pCons (pBox (0 : Nat) (1 : Nat) (22 : TypeId) false true pAny) pNil) fun (n, (a, (m, (b, (_, _))))) (xs, _) => ((slices_rotateCmpFunc_A n a m b xs).isSome, ((AV.tuple [], ([⟨0, (1 : Nat), (22 : Nat), ((slices_rotateCmpFunc_A n a m b xs).getD []), false, true⟩] : List Box))))
theorem slices_rotateCmpFunc_A_c : OmOk Tryd.prog ITryd 87 (slices_rotateCmpFunc_A_o) := omOk_of fun vv bb rr hh' hh => by
  obtain ⟨n, ⟨a, ⟨m, ⟨b, ⟨_, _⟩⟩⟩⟩⟩ := vv
  obtain ⟨xs, _⟩ := bb
  obtain ⟨hh1, hh2⟩ := Prod.mk.inj hh
  refine goodM_pin (p := slices_rotateCmpFunc_A_E1.pin) (goodM_XFM mxTryd (inv0Ok Tryd.prog _) rfl slices_rotateCmpFunc_A_E1_ok rfl Tryd.func87 rfl (by kernel_rfl) slices_rotateCmpFunc_A_E1_lk87 ((slices_rotateCmpFunc_A_x _ _ _ _ _ _ (getD_of_isSome (d := []) hh1)).trans ?_))
  exact congrArg some hh2


noncomputable def EL4_3 : Env := EL4_2.withM 87 slices_rotateCmpFunc_A_o

theorem EL4_3_ok : OrcOk Tryd.prog ITryd EL4_3 := EL4_2_ok.withM slices_rotateCmpFunc_A_c

/-- The environment of slices.symMergeCmpFunc   bitemporal/api.Value : its loops so far. -/

noncomputable def slices_symMergeCmpFunc_A_E0 : Env := EL4_3.fn 220 1 (lsOf [22]) (lpsOf [])

theorem slices_symMergeCmpFunc_A_E0_ok : OrcOk Tryd.prog (ITryd.at 1) slices_symMergeCmpFunc_A_E0 := EL4_3_ok.fn

theorem slices_symMergeCmpFunc_A_E0_lk80_0 : LoOk Tryd.prog (ITryd.at slices_symMergeCmpFunc_A_E0.pin) slices_symMergeCmpFunc_A_E0 (loopAt Tryd.f80 0) := loOk_nil (by kernel_rfl)

/- 15 nodes -/
noncomputable def slices_symMergeCmpFunc_A_l0_v0 (i : Int) (j : Int) : Int := IntKind.i64.wrap ((IntKind.u64.wrap (IntKind.i64.wrap (i + j))).fdiv (2 : Int))
noncomputable def slices_symMergeCmpFunc_A_l0_t {T : Type} (data : Nat) (a : Int) (i : Int) (j : Int) (data_xs : List AV) (δ : T) (κl : (Int × Int × List AV) → T) (κr : (Int × List AV) → T) : T := br (decide (i < j)) (br (decide ((0 : Int) ≤ slices_symMergeCmpFunc_A_l0_v0 i j) && decide (slices_symMergeCmpFunc_A_l0_v0 i j < (↑data : Int))) (br (decide ((0 : Nat) + (slices_symMergeCmpFunc_A_l0_v0 i j).toNat < data_xs.length) && hasSh1 (Sh.list (3 : Nat)) ((data_xs.getD ((0 : Nat) + (slices_symMergeCmpFunc_A_l0_v0 i j).toNat) AV.top).cells.getD (0 : Nat) AV.top)) (br (decide ((0 : Int) ≤ a) && decide (a < (↑data : Int))) (br (decide ((0 : Nat) + a.toNat < data_xs.length) && hasSh1 (Sh.list (3 : Nat)) ((data_xs.getD ((0 : Nat) + a.toNat) AV.top).cells.getD (0 : Nat) AV.top)) (br (tuple_Compare_pre ((data_xs.getD ((0 : Nat) + (slices_symMergeCmpFunc_A_l0_v0 i j).toNat) AV.top).cells.getD (0 : Nat) AV.top).toList ((data_xs.getD ((0 : Nat) + a.toNat) AV.top).cells.getD (0 : Nat) AV.top).toList) (br (decide (tuple_Compare ((data_xs.getD ((0 : Nat) + (slices_symMergeCmpFunc_A_l0_v0 i j).toNat) AV.top).cells.getD (0 : Nat) AV.top).toList ((data_xs.getD ((0 : Nat) + a.toNat) AV.top).cells.getD (0 : Nat) AV.top).toList < (0 : Int))) (κl (IntKind.i64.wrap (slices_symMergeCmpFunc_A_l0_v0 i j + (1 : Int)), j, data_xs)) (κl (i, slices_symMergeCmpFunc_A_l0_v0 i j, data_xs))) (δ)) (δ)) (δ)) (δ)) (δ)) (κr (i, data_xs))
noncomputable def slices_symMergeCmpFunc_A_l0_step (data : Nat) (a : Int) : (Int × Int × List AV) → Option ((Int × Int × List AV) ⊕ (Int × List AV)) := fun (i, j, data_xs) => slices_symMergeCmpFunc_A_l0_t data a i j data_xs none (fun s => some (.inl s)) (fun p => some (.inr p))
noncomputable def slices_symMergeCmpFunc_A_l0_L (data : Nat) (a : Int) : (Int × Int × List AV) → List AV × List Box := fun (i, j, data_xs) => ([AV.osl 0 0 0 data, AV.int IntKind.i64 a, AV.func (10 : Nat) [], AV.int IntKind.i64 i, AV.int IntKind.i64 j], [⟨0, (1 : Nat), (22 : Nat), data_xs, false, true⟩])
noncomputable def slices_symMergeCmpFunc_A_l0_out (data : Nat) (a : Int) : (Int × List AV) → LR := fun p => (.leaf (Exit.exit (0 : Nat)) [AV.osl 0 0 0 data, AV.int IntKind.i64 a, AV.int IntKind.i64 p.1] [⟨0, (1 : Nat), (22 : Nat), p.2, false, true⟩])
noncomputable abbrev slices_symMergeCmpFunc_A_l0_X (vals : List AV) (H : List Box) := XR Tryd.prog slices_symMergeCmpFunc_A_E0 [0, 1, 4, 10, 11] [0, 1, 10] [] (loopAt Tryd.f80 0) vals H
theorem slices_symMergeCmpFunc_A_l0_r (data : Nat) (a : Int) (s : Int × Int × List AV) : Enc (encR (slices_symMergeCmpFunc_A_l0_L data a) (slices_symMergeCmpFunc_A_l0_out data a)) (slices_symMergeCmpFunc_A_l0_step data a s) (slices_symMergeCmpFunc_A_l0_X (slices_symMergeCmpFunc_A_l0_L data a s).1 (slices_symMergeCmpFunc_A_l0_L data a s).2) := by
  obtain ⟨i, j, data_xs⟩ := s
  have h : slices_symMergeCmpFunc_A_l0_X (slices_symMergeCmpFunc_A_l0_L data a (i, j, data_xs)).1 (slices_symMergeCmpFunc_A_l0_L data a (i, j, data_xs)).2 = slices_symMergeCmpFunc_A_l0_t data a i j data_xs none (fun s => some (encR (slices_symMergeCmpFunc_A_l0_L data a) (slices_symMergeCmpFunc_A_l0_out data a) (.inl s))) (fun p => some (encR (slices_symMergeCmpFunc_A_l0_L data a) (slices_symMergeCmpFunc_A_l0_out data a) (.inr p))) := by kernel_rfl
  rw [h]; unfold slices_symMergeCmpFunc_A_l0_step slices_symMergeCmpFunc_A_l0_t; repeat' (first | exact Enc.none | exact Enc.some rfl | refine Enc.br ?_ ?_)
noncomputable def slices_symMergeCmpFunc_A_l0_lp : Lp := lpOf [0, 1, 4, 10, 11] [0, 1, 10] [] (pCons (pOsl (0 : Nat) (0 : Nat) (0 : Nat)) (pCons (pInt IntKind.i64) (pCons (pFunc (10 : Nat) pNil) (pCons (pInt IntKind.i64) (pCons (pInt IntKind.i64) pNil))))) (pCons (pBox (0 : Nat) (1 : Nat) (22 : Nat) false true pAny) pNil) fun (data, (a, (_, (i, (j, _))))) (data_xs, _) => ((Iter (slices_symMergeCmpFunc_A_l0_step data a) (i, j, data_xs)).isSome, slices_symMergeCmpFunc_A_l0_out data a ((Iter (slices_symMergeCmpFunc_A_l0_step data a) (i, j, data_xs)).getD (0, [])))
theorem slices_symMergeCmpFunc_A_l0_lok : LoopOk Tryd.prog (ITryd.at slices_symMergeCmpFunc_A_E0.pin) slices_symMergeCmpFunc_A_E0.nt (loopAt Tryd.f80 0) slices_symMergeCmpFunc_A_l0_lp := lok_of fun vv bb rr hh => by
  obtain ⟨data, ⟨a, ⟨_, ⟨i, ⟨j, _⟩⟩⟩⟩⟩ := vv
  obtain ⟨data_xs, _⟩ := bb
  obtain ⟨hh1, rfl⟩ := Prod.mk.inj hh
  exact loop_of_XR mxTryd (inv0Ok Tryd.prog _) rfl slices_symMergeCmpFunc_A_E0_ok slices_symMergeCmpFunc_A_E0_lk80_0 (slices_symMergeCmpFunc_A_l0_L data a) (slices_symMergeCmpFunc_A_l0_out data a) (fun p => by simp only [slices_symMergeCmpFunc_A_l0_out, LR.eval]; first | (simp; done) | (repeat' split <;> simp)) (slices_symMergeCmpFunc_A_l0_r data a) (s := (i, j, data_xs)) (getD_of_isSome hh1)


/-- The environment of slices.symMergeCmpFunc   bitemporal/api.Value : its loops so far. -/

noncomputable def slices_symMergeCmpFunc_A_E1 : Env := EL4_3.fn 220 1 (lsOf [22]) (lpsOf [(3, slices_symMergeCmpFunc_A_l0_lp)])

theorem slices_symMergeCmpFunc_A_E1_ok : OrcOk Tryd.prog (ITryd.at 1) slices_symMergeCmpFunc_A_E1 := EL4_3_ok.fn

theorem slices_symMergeCmpFunc_A_E1_lk80_1 : LoOk Tryd.prog (ITryd.at slices_symMergeCmpFunc_A_E1.pin) slices_symMergeCmpFunc_A_E1 (loopAt Tryd.f80 1) := loOk_nil (by kernel_rfl)

/- 19 nodes -/
noncomputable def slices_symMergeCmpFunc_A_l1_v0 (data : Nat) (k : Int) : Bool := decide ((0 : Int) ≤ IntKind.i64.wrap (k + (1 : Int))) && decide (IntKind.i64.wrap (k + (1 : Int)) < (↑data : Int))
noncomputable def slices_symMergeCmpFunc_A_l1_v1 (k : Int) : Nat := (0 : Nat) + (IntKind.i64.wrap (k + (1 : Int))).toNat
noncomputable def slices_symMergeCmpFunc_A_l1_v2 (k : Int) (data_xs : List AV) : Bool := decide ((0 : Nat) + k.toNat < data_xs.length)
noncomputable def slices_symMergeCmpFunc_A_l1_t {T : Type} (data : Nat) (i : Int) (k : Int) (data_xs : List AV) (δ : T) (κl : (Int × List AV) → T) (κr : (List AV) → T) : T := br (decide (k < IntKind.i64.wrap (i - (1 : Int)))) (br (slices_symMergeCmpFunc_A_l1_v0 data k) (br (decide (slices_symMergeCmpFunc_A_l1_v1 k < data_xs.length) && hasSh1 (Sh.list (3 : Nat)) ((data_xs.getD (slices_symMergeCmpFunc_A_l1_v1 k) AV.top).cells.getD (0 : Nat) AV.top)) (br (decide ((0 : Int) ≤ k) && decide (k < (↑data : Int))) (br (slices_symMergeCmpFunc_A_l1_v2 k data_xs && hasSh1 (Sh.list (3 : Nat)) ((data_xs.getD ((0 : Nat) + k.toNat) AV.top).cells.getD (0 : Nat) AV.top)) (br (decide ((0 : Int) ≤ k) && decide (k < (↑data : Int))) (br (slices_symMergeCmpFunc_A_l1_v2 k data_xs) (br (slices_symMergeCmpFunc_A_l1_v0 data k) (br (decide (slices_symMergeCmpFunc_A_l1_v1 k < (data_xs.set ((0 : Nat) + k.toNat) (AV.list (3 : Nat) ((data_xs.getD (slices_symMergeCmpFunc_A_l1_v1 k) AV.top).cells.getD (0 : Nat) AV.top).toList)).length)) (κl (IntKind.i64.wrap (k + (1 : Int)), (data_xs.set ((0 : Nat) + k.toNat) (AV.list (3 : Nat) ((data_xs.getD (slices_symMergeCmpFunc_A_l1_v1 k) AV.top).cells.getD (0 : Nat) AV.top).toList)).set (slices_symMergeCmpFunc_A_l1_v1 k) (AV.list (3 : Nat) ((data_xs.getD ((0 : Nat) + k.toNat) AV.top).cells.getD (0 : Nat) AV.top).toList))) (δ)) (δ)) (δ)) (δ)) (δ)) (δ)) (δ)) (δ)) (κr (data_xs))
noncomputable def slices_symMergeCmpFunc_A_l1_step (data : Nat) (i : Int) : (Int × List AV) → Option ((Int × List AV) ⊕ (List AV)) := fun (k, data_xs) => slices_symMergeCmpFunc_A_l1_t data i k data_xs none (fun s => some (.inl s)) (fun p => some (.inr p))
noncomputable def slices_symMergeCmpFunc_A_l1_L (data : Nat) (i : Int) : (Int × List AV) → List AV × List Box := fun (k, data_xs) => ([AV.osl 0 0 0 data, AV.int IntKind.i64 i, AV.int IntKind.i64 k], [⟨0, (1 : Nat), (22 : Nat), data_xs, false, true⟩])
noncomputable def slices_symMergeCmpFunc_A_l1_out (data : Nat) (i : Int) : (List AV) → LR := fun p => (.leaf (Exit.exit (2 : Nat)) [] [⟨0, (1 : Nat), (22 : Nat), p, false, true⟩])
noncomputable abbrev slices_symMergeCmpFunc_A_l1_X (vals : List AV) (H : List Box) := XR Tryd.prog slices_symMergeCmpFunc_A_E1 [0, 10, 13] [] [] (loopAt Tryd.f80 1) vals H
theorem slices_symMergeCmpFunc_A_l1_r (data : Nat) (i : Int) (s : Int × List AV) : Enc (encR (slices_symMergeCmpFunc_A_l1_L data i) (slices_symMergeCmpFunc_A_l1_out data i)) (slices_symMergeCmpFunc_A_l1_step data i s) (slices_symMergeCmpFunc_A_l1_X (slices_symMergeCmpFunc_A_l1_L data i s).1 (slices_symMergeCmpFunc_A_l1_L data i s).2) := by
  obtain ⟨k, data_xs⟩ := s
  have h : slices_symMergeCmpFunc_A_l1_X (slices_symMergeCmpFunc_A_l1_L data i (k, data_xs)).1 (slices_symMergeCmpFunc_A_l1_L data i (k, data_xs)).2 = slices_symMergeCmpFunc_A_l1_t data i k data_xs none (fun s => some (encR (slices_symMergeCmpFunc_A_l1_L data i) (slices_symMergeCmpFunc_A_l1_out data i) (.inl s))) (fun p => some (encR (slices_symMergeCmpFunc_A_l1_L data i) (slices_symMergeCmpFunc_A_l1_out data i) (.inr p))) := by kernel_rfl
  rw [h]; unfold slices_symMergeCmpFunc_A_l1_step slices_symMergeCmpFunc_A_l1_t; repeat' (first | exact Enc.none | exact Enc.some rfl | refine Enc.br ?_ ?_)
noncomputable def slices_symMergeCmpFunc_A_l1_lp : Lp := lpOf [0, 10, 13] [] [] (pCons (pOsl (0 : Nat) (0 : Nat) (0 : Nat)) (pCons (pInt IntKind.i64) (pCons (pInt IntKind.i64) pNil))) (pCons (pBox (0 : Nat) (1 : Nat) (22 : Nat) false true pAny) pNil) fun (data, (i, (k, _))) (data_xs, _) => ((Iter (slices_symMergeCmpFunc_A_l1_step data i) (k, data_xs)).isSome, slices_symMergeCmpFunc_A_l1_out data i ((Iter (slices_symMergeCmpFunc_A_l1_step data i) (k, data_xs)).getD []))
theorem slices_symMergeCmpFunc_A_l1_lok : LoopOk Tryd.prog (ITryd.at slices_symMergeCmpFunc_A_E1.pin) slices_symMergeCmpFunc_A_E1.nt (loopAt Tryd.f80 1) slices_symMergeCmpFunc_A_l1_lp := lok_of fun vv bb rr hh => by
  obtain ⟨data, ⟨i, ⟨k, _⟩⟩⟩ := vv
  obtain ⟨data_xs, _⟩ := bb
  obtain ⟨hh1, rfl⟩ := Prod.mk.inj hh
  exact loop_of_XR mxTryd (inv0Ok Tryd.prog _) rfl slices_symMergeCmpFunc_A_E1_ok slices_symMergeCmpFunc_A_E1_lk80_1 (slices_symMergeCmpFunc_A_l1_L data i) (slices_symMergeCmpFunc_A_l1_out data i) (fun p => by simp only [slices_symMergeCmpFunc_A_l1_out, LR.eval]; first | (simp; done) | (repeat' split <;> simp)) (slices_symMergeCmpFunc_A_l1_r data i) (s := (k, data_xs)) (getD_of_isSome hh1)


/-- The environment of slices.symMergeCmpFunc   bitemporal/api.Value : its loops so far. -/

noncomputable def slices_symMergeCmpFunc_A_E2 : Env := EL4_3.fn 220 1 (lsOf [22]) (lpsOf [(3, slices_symMergeCmpFunc_A_l0_lp), (9, slices_symMergeCmpFunc_A_l1_lp)])

theorem slices_symMergeCmpFunc_A_E2_ok : OrcOk Tryd.prog (ITryd.at 1) slices_symMergeCmpFunc_A_E2 := EL4_3_ok.fn

theorem slices_symMergeCmpFunc_A_E2_lk80_2 : LoOk Tryd.prog (ITryd.at slices_symMergeCmpFunc_A_E2.pin) slices_symMergeCmpFunc_A_E2 (loopAt Tryd.f80 2) := loOk_nil (by kernel_rfl)

/- 15 nodes -/
noncomputable def slices_symMergeCmpFunc_A_l2_v0 (i : Int) (j : Int) : Int := IntKind.i64.wrap ((IntKind.u64.wrap (IntKind.i64.wrap (i + j))).fdiv (2 : Int))
noncomputable def slices_symMergeCmpFunc_A_l2_t {T : Type} (data : Nat) (m : Int) (i : Int) (j : Int) (data_xs : List AV) (δ : T) (κl : (Int × Int × List AV) → T) (κr : (Int × List AV) → T) : T := br (decide (i < j)) (br (decide ((0 : Int) ≤ m) && decide (m < (↑data : Int))) (br (decide ((0 : Nat) + m.toNat < data_xs.length) && hasSh1 (Sh.list (3 : Nat)) ((data_xs.getD ((0 : Nat) + m.toNat) AV.top).cells.getD (0 : Nat) AV.top)) (br (decide ((0 : Int) ≤ slices_symMergeCmpFunc_A_l2_v0 i j) && decide (slices_symMergeCmpFunc_A_l2_v0 i j < (↑data : Int))) (br (decide ((0 : Nat) + (slices_symMergeCmpFunc_A_l2_v0 i j).toNat < data_xs.length) && hasSh1 (Sh.list (3 : Nat)) ((data_xs.getD ((0 : Nat) + (slices_symMergeCmpFunc_A_l2_v0 i j).toNat) AV.top).cells.getD (0 : Nat) AV.top)) (br (tuple_Compare_pre ((data_xs.getD ((0 : Nat) + m.toNat) AV.top).cells.getD (0 : Nat) AV.top).toList ((data_xs.getD ((0 : Nat) + (slices_symMergeCmpFunc_A_l2_v0 i j).toNat) AV.top).cells.getD (0 : Nat) AV.top).toList) (br (!decide (tuple_Compare ((data_xs.getD ((0 : Nat) + m.toNat) AV.top).cells.getD (0 : Nat) AV.top).toList ((data_xs.getD ((0 : Nat) + (slices_symMergeCmpFunc_A_l2_v0 i j).toNat) AV.top).cells.getD (0 : Nat) AV.top).toList < (0 : Int))) (κl (IntKind.i64.wrap (slices_symMergeCmpFunc_A_l2_v0 i j + (1 : Int)), j, data_xs)) (κl (i, slices_symMergeCmpFunc_A_l2_v0 i j, data_xs))) (δ)) (δ)) (δ)) (δ)) (δ)) (κr (i, data_xs))
noncomputable def slices_symMergeCmpFunc_A_l2_step (data : Nat) (m : Int) : (Int × Int × List AV) → Option ((Int × Int × List AV) ⊕ (Int × List AV)) := fun (i, j, data_xs) => slices_symMergeCmpFunc_A_l2_t data m i j data_xs none (fun s => some (.inl s)) (fun p => some (.inr p))
noncomputable def slices_symMergeCmpFunc_A_l2_L (data : Nat) (m : Int) : (Int × Int × List AV) → List AV × List Box := fun (i, j, data_xs) => ([AV.osl 0 0 0 data, AV.int IntKind.i64 m, AV.func (10 : Nat) [], AV.int IntKind.i64 i, AV.int IntKind.i64 j], [⟨0, (1 : Nat), (22 : Nat), data_xs, false, true⟩])
noncomputable def slices_symMergeCmpFunc_A_l2_out (data : Nat) (m : Int) : (Int × List AV) → LR := fun p => (.leaf (Exit.exit (4 : Nat)) [AV.osl 0 0 0 data, AV.int IntKind.i64 m, AV.int IntKind.i64 p.1] [⟨0, (1 : Nat), (22 : Nat), p.2, false, true⟩])
noncomputable abbrev slices_symMergeCmpFunc_A_l2_X (vals : List AV) (H : List Box) := XR Tryd.prog slices_symMergeCmpFunc_A_E2 [0, 2, 4, 14, 15] [0, 2, 14] [] (loopAt Tryd.f80 2) vals H
theorem slices_symMergeCmpFunc_A_l2_r (data : Nat) (m : Int) (s : Int × Int × List AV) : Enc (encR (slices_symMergeCmpFunc_A_l2_L data m) (slices_symMergeCmpFunc_A_l2_out data m)) (slices_symMergeCmpFunc_A_l2_step data m s) (slices_symMergeCmpFunc_A_l2_X (slices_symMergeCmpFunc_A_l2_L data m s).1 (slices_symMergeCmpFunc_A_l2_L data m s).2) := by
  obtain ⟨i, j, data_xs⟩ := s
  have h : slices_symMergeCmpFunc_A_l2_X (slices_symMergeCmpFunc_A_l2_L data m (i, j, data_xs)).1 (slices_symMergeCmpFunc_A_l2_L data m (i, j, data_xs)).2 = slices_symMergeCmpFunc_A_l2_t data m i j data_xs none (fun s => some (encR (slices_symMergeCmpFunc_A_l2_L data m) (slices_symMergeCmpFunc_A_l2_out data m) (.inl s))) (fun p => some (encR (slices_symMergeCmpFunc_A_l2_L data m) (slices_symMergeCmpFunc_A_l2_out data m) (.inr p))) := by kernel_rfl
  rw [h]; unfold slices_symMergeCmpFunc_A_l2_step slices_symMergeCmpFunc_A_l2_t; repeat' (first | exact Enc.none | exact Enc.some rfl | refine Enc.br ?_ ?_)
noncomputable def slices_symMergeCmpFunc_A_l2_lp : Lp := lpOf [0, 2, 4, 14, 15] [0, 2, 14] [] (pCons (pOsl (0 : Nat) (0 : Nat) (0 : Nat)) (pCons (pInt IntKind.i64) (pCons (pFunc (10 : Nat) pNil) (pCons (pInt IntKind.i64) (pCons (pInt IntKind.i64) pNil))))) (pCons (pBox (0 : Nat) (1 : Nat) (22 : Nat) false true pAny) pNil) fun (data, (m, (_, (i, (j, _))))) (data_xs, _) => ((Iter (slices_symMergeCmpFunc_A_l2_step data m) (i, j, data_xs)).isSome, slices_symMergeCmpFunc_A_l2_out data m ((Iter (slices_symMergeCmpFunc_A_l2_step data m) (i, j, data_xs)).getD (0, [])))
theorem slices_symMergeCmpFunc_A_l2_lok : LoopOk Tryd.prog (ITryd.at slices_symMergeCmpFunc_A_E2.pin) slices_symMergeCmpFunc_A_E2.nt (loopAt Tryd.f80 2) slices_symMergeCmpFunc_A_l2_lp := lok_of fun vv bb rr hh => by
  obtain ⟨data, ⟨m, ⟨_, ⟨i, ⟨j, _⟩⟩⟩⟩⟩ := vv
  obtain ⟨data_xs, _⟩ := bb
  obtain ⟨hh1, rfl⟩ := Prod.mk.inj hh
  exact loop_of_XR mxTryd (inv0Ok Tryd.prog _) rfl slices_symMergeCmpFunc_A_E2_ok slices_symMergeCmpFunc_A_E2_lk80_2 (slices_symMergeCmpFunc_A_l2_L data m) (slices_symMergeCmpFunc_A_l2_out data m) (fun p => by simp only [slices_symMergeCmpFunc_A_l2_out, LR.eval]; first | (simp; done) | (repeat' split <;> simp)) (slices_symMergeCmpFunc_A_l2_r data m) (s := (i, j, data_xs)) (getD_of_isSome hh1)


/-- The environment of slices.symMergeCmpFunc   bitemporal/api.Value : its loops so far. -/

noncomputable def slices_symMergeCmpFunc_A_E3 : Env := EL4_3.fn 220 1 (lsOf [22]) (lpsOf [(3, slices_symMergeCmpFunc_A_l0_lp), (9, slices_symMergeCmpFunc_A_l1_lp), (15, slices_symMergeCmpFunc_A_l2_lp)])

theorem slices_symMergeCmpFunc_A_E3_ok : OrcOk Tryd.prog (ITryd.at 1) slices_symMergeCmpFunc_A_E3 := EL4_3_ok.fn

theorem slices_symMergeCmpFunc_A_E3_lk80_3 : LoOk Tryd.prog (ITryd.at slices_symMergeCmpFunc_A_E3.pin) slices_symMergeCmpFunc_A_E3 (loopAt Tryd.f80 3) := loOk_nil (by kernel_rfl)

/- 19 nodes -/
noncomputable def slices_symMergeCmpFunc_A_l3_v0 (data : Nat) (k : Int) : Bool := decide ((0 : Int) ≤ IntKind.i64.wrap (k - (1 : Int))) && decide (IntKind.i64.wrap (k - (1 : Int)) < (↑data : Int))
noncomputable def slices_symMergeCmpFunc_A_l3_v1 (k : Int) : Nat := (0 : Nat) + (IntKind.i64.wrap (k - (1 : Int))).toNat
noncomputable def slices_symMergeCmpFunc_A_l3_v2 (k : Int) (data_xs : List AV) : Bool := decide ((0 : Nat) + k.toNat < data_xs.length)
noncomputable def slices_symMergeCmpFunc_A_l3_t {T : Type} (data : Nat) (i : Int) (k : Int) (data_xs : List AV) (δ : T) (κl : (Int × List AV) → T) (κr : (List AV) → T) : T := br (decide (k > i)) (br (slices_symMergeCmpFunc_A_l3_v0 data k) (br (decide (slices_symMergeCmpFunc_A_l3_v1 k < data_xs.length) && hasSh1 (Sh.list (3 : Nat)) ((data_xs.getD (slices_symMergeCmpFunc_A_l3_v1 k) AV.top).cells.getD (0 : Nat) AV.top)) (br (decide ((0 : Int) ≤ k) && decide (k < (↑data : Int))) (br (slices_symMergeCmpFunc_A_l3_v2 k data_xs && hasSh1 (Sh.list (3 : Nat)) ((data_xs.getD ((0 : Nat) + k.toNat) AV.top).cells.getD (0 : Nat) AV.top)) (br (decide ((0 : Int) ≤ k) && decide (k < (↑data : Int))) (br (slices_symMergeCmpFunc_A_l3_v2 k data_xs) (br (slices_symMergeCmpFunc_A_l3_v0 data k) (br (decide (slices_symMergeCmpFunc_A_l3_v1 k < (data_xs.set ((0 : Nat) + k.toNat) (AV.list (3 : Nat) ((data_xs.getD (slices_symMergeCmpFunc_A_l3_v1 k) AV.top).cells.getD (0 : Nat) AV.top).toList)).length)) (κl (IntKind.i64.wrap (k - (1 : Int)), (data_xs.set ((0 : Nat) + k.toNat) (AV.list (3 : Nat) ((data_xs.getD (slices_symMergeCmpFunc_A_l3_v1 k) AV.top).cells.getD (0 : Nat) AV.top).toList)).set (slices_symMergeCmpFunc_A_l3_v1 k) (AV.list (3 : Nat) ((data_xs.getD ((0 : Nat) + k.toNat) AV.top).cells.getD (0 : Nat) AV.top).toList))) (δ)) (δ)) (δ)) (δ)) (δ)) (δ)) (δ)) (δ)) (κr (data_xs))
noncomputable def slices_symMergeCmpFunc_A_l3_step (data : Nat) (i : Int) : (Int × List AV) → Option ((Int × List AV) ⊕ (List AV)) := fun (k, data_xs) => slices_symMergeCmpFunc_A_l3_t data i k data_xs none (fun s => some (.inl s)) (fun p => some (.inr p))
noncomputable def slices_symMergeCmpFunc_A_l3_L (data : Nat) (i : Int) : (Int × List AV) → List AV × List Box := fun (k, data_xs) => ([AV.osl 0 0 0 data, AV.int IntKind.i64 i, AV.int IntKind.i64 k], [⟨0, (1 : Nat), (22 : Nat), data_xs, false, true⟩])
noncomputable def slices_symMergeCmpFunc_A_l3_out (data : Nat) (i : Int) : (List AV) → LR := fun p => (.leaf (Exit.exit (6 : Nat)) [] [⟨0, (1 : Nat), (22 : Nat), p, false, true⟩])
noncomputable abbrev slices_symMergeCmpFunc_A_l3_X (vals : List AV) (H : List Box) := XR Tryd.prog slices_symMergeCmpFunc_A_E3 [0, 14, 17] [] [] (loopAt Tryd.f80 3) vals H
theorem slices_symMergeCmpFunc_A_l3_r (data : Nat) (i : Int) (s : Int × List AV) : Enc (encR (slices_symMergeCmpFunc_A_l3_L data i) (slices_symMergeCmpFunc_A_l3_out data i)) (slices_symMergeCmpFunc_A_l3_step data i s) (slices_symMergeCmpFunc_A_l3_X (slices_symMergeCmpFunc_A_l3_L data i s).1 (slices_symMergeCmpFunc_A_l3_L data i s).2) := by
  obtain ⟨k, data_xs⟩ := s
  have h : slices_symMergeCmpFunc_A_l3_X (slices_symMergeCmpFunc_A_l3_L data i (k, data_xs)).1 (slices_symMergeCmpFunc_A_l3_L data i (k, data_xs)).2 = slices_symMergeCmpFunc_A_l3_t data i k data_xs none (fun s => some (encR (slices_symMergeCmpFunc_A_l3_L data i) (slices_symMergeCmpFunc_A_l3_out data i) (.inl s))) (fun p => some (encR (slices_symMergeCmpFunc_A_l3_L data i) (slices_symMergeCmpFunc_A_l3_out data i) (.inr p))) := by kernel_rfl
  rw [h]; unfold slices_symMergeCmpFunc_A_l3_step slices_symMergeCmpFunc_A_l3_t; repeat' (first | exact Enc.none | exact Enc.some rfl | refine Enc.br ?_ ?_)
noncomputable def slices_symMergeCmpFunc_A_l3_lp : Lp := lpOf [0, 14, 17] [] [] (pCons (pOsl (0 : Nat) (0 : Nat) (0 : Nat)) (pCons (pInt IntKind.i64) (pCons (pInt IntKind.i64) pNil))) (pCons (pBox (0 : Nat) (1 : Nat) (22 : Nat) false true pAny) pNil) fun (data, (i, (k, _))) (data_xs, _) => ((Iter (slices_symMergeCmpFunc_A_l3_step data i) (k, data_xs)).isSome, slices_symMergeCmpFunc_A_l3_out data i ((Iter (slices_symMergeCmpFunc_A_l3_step data i) (k, data_xs)).getD []))
theorem slices_symMergeCmpFunc_A_l3_lok : LoopOk Tryd.prog (ITryd.at slices_symMergeCmpFunc_A_E3.pin) slices_symMergeCmpFunc_A_E3.nt (loopAt Tryd.f80 3) slices_symMergeCmpFunc_A_l3_lp := lok_of fun vv bb rr hh => by
  obtain ⟨data, ⟨i, ⟨k, _⟩⟩⟩ := vv
  obtain ⟨data_xs, _⟩ := bb
  obtain ⟨hh1, rfl⟩ := Prod.mk.inj hh
  exact loop_of_XR mxTryd (inv0Ok Tryd.prog _) rfl slices_symMergeCmpFunc_A_E3_ok slices_symMergeCmpFunc_A_E3_lk80_3 (slices_symMergeCmpFunc_A_l3_L data i) (slices_symMergeCmpFunc_A_l3_out data i) (fun p => by simp only [slices_symMergeCmpFunc_A_l3_out, LR.eval]; first | (simp; done) | (repeat' split <;> simp)) (slices_symMergeCmpFunc_A_l3_r data i) (s := (k, data_xs)) (getD_of_isSome hh1)


/-- The environment of slices.symMergeCmpFunc   bitemporal/api.Value : its loops so far. -/

noncomputable def slices_symMergeCmpFunc_A_E4 : Env := EL4_3.fn 220 1 (lsOf [22]) (lpsOf [(3, slices_symMergeCmpFunc_A_l0_lp), (9, slices_symMergeCmpFunc_A_l1_lp), (15, slices_symMergeCmpFunc_A_l2_lp), (21, slices_symMergeCmpFunc_A_l3_lp)])

theorem slices_symMergeCmpFunc_A_E4_ok : OrcOk Tryd.prog (ITryd.at 1) slices_symMergeCmpFunc_A_E4 := EL4_3_ok.fn

theorem slices_symMergeCmpFunc_A_E4_lk80_4 : LoOk Tryd.prog (ITryd.at slices_symMergeCmpFunc_A_E4.pin) slices_symMergeCmpFunc_A_E4 (loopAt Tryd.f80 4) := loOk_nil (by kernel_rfl)

/- 15 nodes -/
noncomputable def slices_symMergeCmpFunc_A_l4_v0 (start : Int) (r : Int) : Int := IntKind.i64.wrap ((IntKind.u64.wrap (IntKind.i64.wrap (start + r))).fdiv (2 : Int))
noncomputable def slices_symMergeCmpFunc_A_l4_t {T : Type} (data : Nat) (a : Int) (m : Int) (b : Int) (mid : Int) (n : Int) (p0 : Int) (start : Int) (r : Int) (data_xs : List AV) (δ : T) (κl : (Int × Int × List AV) → T) (κr : (Int × List AV) → T) : T := br (decide (start < r)) (br (decide ((0 : Int) ≤ IntKind.i64.wrap (p0 - slices_symMergeCmpFunc_A_l4_v0 start r)) && decide (IntKind.i64.wrap (p0 - slices_symMergeCmpFunc_A_l4_v0 start r) < (↑data : Int))) (br (decide ((0 : Nat) + (IntKind.i64.wrap (p0 - slices_symMergeCmpFunc_A_l4_v0 start r)).toNat < data_xs.length) && hasSh1 (Sh.list (3 : Nat)) ((data_xs.getD ((0 : Nat) + (IntKind.i64.wrap (p0 - slices_symMergeCmpFunc_A_l4_v0 start r)).toNat) AV.top).cells.getD (0 : Nat) AV.top)) (br (decide ((0 : Int) ≤ slices_symMergeCmpFunc_A_l4_v0 start r) && decide (slices_symMergeCmpFunc_A_l4_v0 start r < (↑data : Int))) (br (decide ((0 : Nat) + (slices_symMergeCmpFunc_A_l4_v0 start r).toNat < data_xs.length) && hasSh1 (Sh.list (3 : Nat)) ((data_xs.getD ((0 : Nat) + (slices_symMergeCmpFunc_A_l4_v0 start r).toNat) AV.top).cells.getD (0 : Nat) AV.top)) (br (tuple_Compare_pre ((data_xs.getD ((0 : Nat) + (IntKind.i64.wrap (p0 - slices_symMergeCmpFunc_A_l4_v0 start r)).toNat) AV.top).cells.getD (0 : Nat) AV.top).toList ((data_xs.getD ((0 : Nat) + (slices_symMergeCmpFunc_A_l4_v0 start r).toNat) AV.top).cells.getD (0 : Nat) AV.top).toList) (br (!decide (tuple_Compare ((data_xs.getD ((0 : Nat) + (IntKind.i64.wrap (p0 - slices_symMergeCmpFunc_A_l4_v0 start r)).toNat) AV.top).cells.getD (0 : Nat) AV.top).toList ((data_xs.getD ((0 : Nat) + (slices_symMergeCmpFunc_A_l4_v0 start r).toNat) AV.top).cells.getD (0 : Nat) AV.top).toList < (0 : Int))) (κl (IntKind.i64.wrap (slices_symMergeCmpFunc_A_l4_v0 start r + (1 : Int)), r, data_xs)) (κl (start, slices_symMergeCmpFunc_A_l4_v0 start r, data_xs))) (δ)) (δ)) (δ)) (δ)) (δ)) (κr (start, data_xs))
noncomputable def slices_symMergeCmpFunc_A_l4_step (data : Nat) (a : Int) (m : Int) (b : Int) (mid : Int) (n : Int) (p0 : Int) : (Int × Int × List AV) → Option ((Int × Int × List AV) ⊕ (Int × List AV)) := fun (start, r, data_xs) => slices_symMergeCmpFunc_A_l4_t data a m b mid n p0 start r data_xs none (fun s => some (.inl s)) (fun p => some (.inr p))
noncomputable def slices_symMergeCmpFunc_A_l4_L (data : Nat) (a : Int) (m : Int) (b : Int) (mid : Int) (n : Int) (p0 : Int) : (Int × Int × List AV) → List AV × List Box := fun (start, r, data_xs) => ([AV.osl 0 0 0 data, AV.int IntKind.i64 a, AV.int IntKind.i64 m, AV.int IntKind.i64 b, AV.func (10 : Nat) [], AV.int IntKind.i64 mid, AV.int IntKind.i64 n, AV.int IntKind.i64 start, AV.int IntKind.i64 r, AV.int IntKind.i64 p0], [⟨0, (1 : Nat), (22 : Nat), data_xs, false, true⟩])
noncomputable def slices_symMergeCmpFunc_A_l4_out (data : Nat) (a : Int) (m : Int) (b : Int) (mid : Int) (n : Int) (p0 : Int) : (Int × List AV) → LR := fun p => (.leaf (Exit.exit (8 : Nat)) [AV.osl 0 0 0 data, AV.int IntKind.i64 a, AV.int IntKind.i64 m, AV.int IntKind.i64 b, AV.func (10 : Nat) [], AV.int IntKind.i64 mid, AV.int IntKind.i64 n, AV.int IntKind.i64 p.1] [⟨0, (1 : Nat), (22 : Nat), p.2, false, true⟩])
noncomputable abbrev slices_symMergeCmpFunc_A_l4_X (vals : List AV) (H : List Box) := XR Tryd.prog slices_symMergeCmpFunc_A_E4 [0, 1, 2, 3, 4, 18, 19, 20, 21, 22] [0, 1, 2, 3, 4, 18, 19, 20] [] (loopAt Tryd.f80 4) vals H
theorem slices_symMergeCmpFunc_A_l4_r (data : Nat) (a : Int) (m : Int) (b : Int) (mid : Int) (n : Int) (p0 : Int) (s : Int × Int × List AV) : Enc (encR (slices_symMergeCmpFunc_A_l4_L data a m b mid n p0) (slices_symMergeCmpFunc_A_l4_out data a m b mid n p0)) (slices_symMergeCmpFunc_A_l4_step data a m b mid n p0 s) (slices_symMergeCmpFunc_A_l4_X (slices_symMergeCmpFunc_A_l4_L data a m b mid n p0 s).1 (slices_symMergeCmpFunc_A_l4_L data a m b mid n p0 s).2) := by
  obtain ⟨start, r, data_xs⟩ := s
  have h : slices_symMergeCmpFunc_A_l4_X (slices_symMergeCmpFunc_A_l4_L data a m b mid n p0 (start, r, data_xs)).1 (slices_symMergeCmpFunc_A_l4_L data a m b mid n p0 (start, r, data_xs)).2 = slices_symMergeCmpFunc_A_l4_t data a m b mid n p0 start r data_xs none (fun s => some (encR (slices_symMergeCmpFunc_A_l4_L data a m b mid n p0) (slices_symMergeCmpFunc_A_l4_out data a m b mid n p0) (.inl s))) (fun p => some (encR (slices_symMergeCmpFunc_A_l4_L data a m b mid n p0) (slices_symMergeCmpFunc_A_l4_out data a m b mid n p0) (.inr p))) := by kernel_rfl
  rw [h]; unfold slices_symMergeCmpFunc_A_l4_step slices_symMergeCmpFunc_A_l4_t; repeat' (first | exact Enc.none | exact Enc.some rfl | refine Enc.br ?_ ?_)
noncomputable def slices_symMergeCmpFunc_A_l4_lp : Lp := lpOf [0, 1, 2, 3, 4, 18, 19, 20, 21, 22] [0, 1, 2, 3, 4, 18, 19, 20] [] (pCons (pOsl (0 : Nat) (0 : Nat) (0 : Nat)) (pCons (pInt IntKind.i64) (pCons (pInt IntKind.i64) (pCons (pInt IntKind.i64) (pCons (pFunc (10 : Nat) pNil) (pCons (pInt IntKind.i64) (pCons (pInt IntKind.i64) (pCons (pInt IntKind.i64) (pCons (pInt IntKind.i64) (pCons (pInt IntKind.i64) pNil)))))))))) (pCons (pBox (0 : Nat) (1 : Nat) (22 : Nat) false true pAny) pNil) fun (data, (a, (m, (b, (_, (mid, (n, (start, (r, (p0, _)))))))))) (data_xs, _) => ((Iter (slices_symMergeCmpFunc_A_l4_step data a m b mid n p0) (start, r, data_xs)).isSome, slices_symMergeCmpFunc_A_l4_out data a m b mid n p0 ((Iter (slices_symMergeCmpFunc_A_l4_step data a m b mid n p0) (start, r, data_xs)).getD (0, [])))
theorem slices_symMergeCmpFunc_A_l4_lok : LoopOk Tryd.prog (ITryd.at slices_symMergeCmpFunc_A_E4.pin) slices_symMergeCmpFunc_A_E4.nt (loopAt Tryd.f80 4) slices_symMergeCmpFunc_A_l4_lp := lok_of fun vv bb rr hh => by
  obtain ⟨data, ⟨a, ⟨m, ⟨b, ⟨_, ⟨mid, ⟨n, ⟨start, ⟨r, ⟨p0, _⟩⟩⟩⟩⟩⟩⟩⟩⟩⟩ := vv
  obtain ⟨data_xs, _⟩ := bb
  obtain ⟨hh1, rfl⟩ := Prod.mk.inj hh
  exact loop_of_XR mxTryd (inv0Ok Tryd.prog _) rfl slices_symMergeCmpFunc_A_E4_ok slices_symMergeCmpFunc_A_E4_lk80_4 (slices_symMergeCmpFunc_A_l4_L data a m b mid n p0) (slices_symMergeCmpFunc_A_l4_out data a m b mid n p0) (fun p => by simp only [slices_symMergeCmpFunc_A_l4_out, LR.eval]; first | (simp; done) | (repeat' split <;> simp)) (slices_symMergeCmpFunc_A_l4_r data a m b mid n p0) (s := (start, r, data_xs)) (getD_of_isSome hh1)


/-- The environment of slices.symMergeCmpFunc   bitemporal/api.Value : its loops so far. -/

noncomputable def slices_symMergeCmpFunc_A_E5 : Env := EL4_3.fn 220 1 (lsOf [22]) (lpsOf [(3, slices_symMergeCmpFunc_A_l0_lp), (9, slices_symMergeCmpFunc_A_l1_lp), (15, slices_symMergeCmpFunc_A_l2_lp), (21, slices_symMergeCmpFunc_A_l3_lp), (33, slices_symMergeCmpFunc_A_l4_lp)])

theorem slices_symMergeCmpFunc_A_E5_ok : OrcOk Tryd.prog (ITryd.at 1) slices_symMergeCmpFunc_A_E5 := EL4_3_ok.fn

/- 0 nodes -/
noncomputable def slices_symMergeCmpFunc_A_recO (R : Nat → Int → Int → Int → List AV → Option (List AV)) : List AV → List Box → Option (Bool × AV × List Box) := omOf (sCons (sEq (pOsl (0 : Nat) (0 : Nat) (0 : Nat))) (sCons (sEq (pInt IntKind.i64)) (sCons (sEq (pInt IntKind.i64)) (sCons (sEq (pInt IntKind.i64)) (sCons (sEq (pFunc (10 : FuncId) pNil)) sNil))))) (pCons (pBox (0 : Nat) (1 : Nat) (22 : TypeId) false true pAny) pNil) fun (n, (a, (m, (b, (_, _))))) (xs, _) => ((R n a m b xs).isSome, (AV.tuple [], ([⟨0, 1, 22, ((R n a m b xs).getD []), false, true⟩] : List Box)))


noncomputable def slices_symMergeCmpFunc_A_ER (R : Nat → Int → Int → Int → List AV → Option (List AV)) : Env := (EL4_3.withM 80 (slices_symMergeCmpFunc_A_recO R)).fn 220 1 (lsOf [22]) (lpsOf [(3, slices_symMergeCmpFunc_A_l0_lp), (9, slices_symMergeCmpFunc_A_l1_lp), (15, slices_symMergeCmpFunc_A_l2_lp), (21, slices_symMergeCmpFunc_A_l3_lp), (33, slices_symMergeCmpFunc_A_l4_lp)])
def slices_symMergeCmpFunc_A_ER_hR (R : Nat → Int → Int → Int → List AV → Option (List AV)) : Prop := OmOk Tryd.prog ITryd 80 (slices_symMergeCmpFunc_A_recO R)

theorem slices_symMergeCmpFunc_A_ER_ok (R : Nat → Int → Int → Int → List AV → Option (List AV)) (hR : slices_symMergeCmpFunc_A_ER_hR R) : OrcOk Tryd.prog (ITryd.at 1) (slices_symMergeCmpFunc_A_ER R) := (EL4_3_ok.withM hR).fn

theorem slices_symMergeCmpFunc_A_ER_lk80 (R : Nat → Int → Int → Int → List AV → Option (List AV)) : LoOk Tryd.prog (ITryd.at (slices_symMergeCmpFunc_A_ER R).pin) (slices_symMergeCmpFunc_A_ER R) (Tryd.f80.body.getD .skip) := loOk_all (ls := [loopAt Tryd.f80 0, loopAt Tryd.f80 1, loopAt Tryd.f80 2, loopAt Tryd.f80 3, loopAt Tryd.f80 4]) (by kernel_rfl) (fun l hl lp hs => by
  simp only [List.mem_cons, List.not_mem_nil, or_false] at hl
  rcases hl with rfl | rfl | rfl | rfl | rfl
  · rw [show (slices_symMergeCmpFunc_A_ER R).lp (codeId (loopAt Tryd.f80 0)) = some slices_symMergeCmpFunc_A_l0_lp by kernel_rfl] at hs
    simp only [Option.some.injEq] at hs; subst hs; exact slices_symMergeCmpFunc_A_l0_lok
  · rw [show (slices_symMergeCmpFunc_A_ER R).lp (codeId (loopAt Tryd.f80 1)) = some slices_symMergeCmpFunc_A_l1_lp by kernel_rfl] at hs
    simp only [Option.some.injEq] at hs; subst hs; exact slices_symMergeCmpFunc_A_l1_lok
  · rw [show (slices_symMergeCmpFunc_A_ER R).lp (codeId (loopAt Tryd.f80 2)) = some slices_symMergeCmpFunc_A_l2_lp by kernel_rfl] at hs
    simp only [Option.some.injEq] at hs; subst hs; exact slices_symMergeCmpFunc_A_l2_lok
  · rw [show (slices_symMergeCmpFunc_A_ER R).lp (codeId (loopAt Tryd.f80 3)) = some slices_symMergeCmpFunc_A_l3_lp by kernel_rfl] at hs
    simp only [Option.some.injEq] at hs; subst hs; exact slices_symMergeCmpFunc_A_l3_lok
  · rw [show (slices_symMergeCmpFunc_A_ER R).lp (codeId (loopAt Tryd.f80 4)) = some slices_symMergeCmpFunc_A_l4_lp by kernel_rfl] at hs
    simp only [Option.some.injEq] at hs; subst hs; exact slices_symMergeCmpFunc_A_l4_lok)

/- 175 nodes -/
noncomputable def slices_symMergeCmpFunc_A_v13 (a : Int) (b : Int) : Int := IntKind.i64.wrap ((IntKind.u64.wrap (IntKind.i64.wrap (a + b))).fdiv (2 : Int))
noncomputable def slices_symMergeCmpFunc_A_v16 (n : Nat) (a : Int) (m : Int) (b : Int) (xs : List AV) : Option (List AV) := Iter (slices_symMergeCmpFunc_A_l1_step n ((Iter (slices_symMergeCmpFunc_A_l0_step n a) (m, b, xs)).getD ((0 : Int), [])).fst) (a, ((Iter (slices_symMergeCmpFunc_A_l0_step n a) (m, b, xs)).getD ((0 : Int), [])).snd)
noncomputable def slices_symMergeCmpFunc_A_v17 (n : Nat) (a : Int) (m : Int) (xs : List AV) : Option (List AV) := Iter (slices_symMergeCmpFunc_A_l3_step n ((Iter (slices_symMergeCmpFunc_A_l2_step n m) (a, m, xs)).getD ((0 : Int), [])).fst) (m, ((Iter (slices_symMergeCmpFunc_A_l2_step n m) (a, m, xs)).getD ((0 : Int), [])).snd)
noncomputable def slices_symMergeCmpFunc_A_v18 (n : Nat) (a : Int) (m : Int) (b : Int) (xs : List AV) : Option (Int × List AV) := Iter (slices_symMergeCmpFunc_A_l4_step n a m b (slices_symMergeCmpFunc_A_v13 a b) (IntKind.i64.wrap (slices_symMergeCmpFunc_A_v13 a b + m)) (IntKind.i64.wrap (IntKind.i64.wrap (slices_symMergeCmpFunc_A_v13 a b + m) - (1 : Int)))) (IntKind.i64.wrap (IntKind.i64.wrap (slices_symMergeCmpFunc_A_v13 a b + m) - b), slices_symMergeCmpFunc_A_v13 a b, xs)
noncomputable def slices_symMergeCmpFunc_A_v20 (n : Nat) (a : Int) (m : Int) (b : Int) (xs : List AV) : Option (Int × List AV) := Iter (slices_symMergeCmpFunc_A_l4_step n a m b (slices_symMergeCmpFunc_A_v13 a b) (IntKind.i64.wrap (slices_symMergeCmpFunc_A_v13 a b + m)) (IntKind.i64.wrap (IntKind.i64.wrap (slices_symMergeCmpFunc_A_v13 a b + m) - (1 : Int)))) (a, m, xs)
noncomputable def slices_symMergeCmpFunc_A_v15 (n : Nat) (a : Int) (m : Int) (b : Int) (xs : List AV) : Int × List AV := (slices_symMergeCmpFunc_A_v18 n a m b xs).getD ((0 : Int), [])
noncomputable def slices_symMergeCmpFunc_A_v19 (n : Nat) (a : Int) (m : Int) (b : Int) (xs : List AV) : Int × List AV := (slices_symMergeCmpFunc_A_v20 n a m b xs).getD ((0 : Int), [])
noncomputable def slices_symMergeCmpFunc_A_v6 (n : Nat) (a : Int) (m : Int) (b : Int) (xs : List AV) : Int := (slices_symMergeCmpFunc_A_v15 n a m b xs).fst
noncomputable def slices_symMergeCmpFunc_A_v7 (n : Nat) (a : Int) (m : Int) (b : Int) (xs : List AV) : Int := (slices_symMergeCmpFunc_A_v19 n a m b xs).fst
noncomputable def slices_symMergeCmpFunc_A_v8 (n : Nat) (a : Int) (m : Int) (b : Int) (xs : List AV) : List AV := (slices_symMergeCmpFunc_A_v15 n a m b xs).snd
noncomputable def slices_symMergeCmpFunc_A_v9 (n : Nat) (a : Int) (m : Int) (b : Int) (xs : List AV) : List AV := (slices_symMergeCmpFunc_A_v19 n a m b xs).snd
noncomputable def slices_symMergeCmpFunc_A_v2 (n : Nat) (a : Int) (m : Int) (b : Int) (xs : List AV) : Int := IntKind.i64.wrap (IntKind.i64.wrap (slices_symMergeCmpFunc_A_v13 a b + m) - slices_symMergeCmpFunc_A_v6 n a m b xs)
noncomputable def slices_symMergeCmpFunc_A_v5 (n : Nat) (a : Int) (m : Int) (b : Int) (xs : List AV) : Int := IntKind.i64.wrap (IntKind.i64.wrap (slices_symMergeCmpFunc_A_v13 a b + m) - slices_symMergeCmpFunc_A_v7 n a m b xs)
noncomputable def slices_symMergeCmpFunc_A_v10 (n : Nat) (a : Int) (m : Int) (b : Int) (xs : List AV) : Bool := decide (slices_symMergeCmpFunc_A_v6 n a m b xs < slices_symMergeCmpFunc_A_v13 a b)
noncomputable def slices_symMergeCmpFunc_A_v11 (n : Nat) (a : Int) (m : Int) (b : Int) (xs : List AV) : Bool := decide (a < slices_symMergeCmpFunc_A_v6 n a m b xs)
noncomputable def slices_symMergeCmpFunc_A_v12 (n : Nat) (a : Int) (m : Int) (b : Int) (xs : List AV) : Bool := decide (slices_symMergeCmpFunc_A_v7 n a m b xs < slices_symMergeCmpFunc_A_v13 a b)
noncomputable def slices_symMergeCmpFunc_A_v14 (n : Nat) (a : Int) (m : Int) (b : Int) (xs : List AV) : Bool := decide (a < slices_symMergeCmpFunc_A_v7 n a m b xs)
noncomputable def slices_symMergeCmpFunc_A_v0 (n : Nat) (a : Int) (m : Int) (b : Int) (xs : List AV) : Bool := decide (slices_symMergeCmpFunc_A_v13 a b < slices_symMergeCmpFunc_A_v2 n a m b xs)
noncomputable def slices_symMergeCmpFunc_A_v1 (n : Nat) (a : Int) (m : Int) (b : Int) (xs : List AV) : Bool := decide (slices_symMergeCmpFunc_A_v2 n a m b xs < b)
noncomputable def slices_symMergeCmpFunc_A_v3 (n : Nat) (a : Int) (m : Int) (b : Int) (xs : List AV) : Bool := decide (slices_symMergeCmpFunc_A_v13 a b < slices_symMergeCmpFunc_A_v5 n a m b xs)
noncomputable def slices_symMergeCmpFunc_A_v4 (n : Nat) (a : Int) (m : Int) (b : Int) (xs : List AV) : Bool := decide (slices_symMergeCmpFunc_A_v5 n a m b xs < b)
noncomputable def slices_symMergeCmpFunc_A_v23 (n : Nat) (a : Int) (m : Int) (b : Int) (xs : List AV) : List AV := (slices_rotateCmpFunc_A n (slices_symMergeCmpFunc_A_v6 n a m b xs) m (slices_symMergeCmpFunc_A_v2 n a m b xs) (slices_symMergeCmpFunc_A_v8 n a m b xs)).getD []
noncomputable def slices_symMergeCmpFunc_A_v24 (n : Nat) (a : Int) (m : Int) (b : Int) (xs : List AV) : List AV := (slices_rotateCmpFunc_A n (slices_symMergeCmpFunc_A_v7 n a m b xs) m (slices_symMergeCmpFunc_A_v5 n a m b xs) (slices_symMergeCmpFunc_A_v9 n a m b xs)).getD []
noncomputable def slices_symMergeCmpFunc_A_v21 (R : Nat → Int → Int → Int → List AV → Option (List AV)) (n : Nat) (a : Int) (m : Int) (b : Int) (xs : List AV) : Option (List AV) := R n (slices_symMergeCmpFunc_A_v13 a b) (slices_symMergeCmpFunc_A_v5 n a m b xs) b ((R n a (slices_symMergeCmpFunc_A_v7 n a m b xs) (slices_symMergeCmpFunc_A_v13 a b) (slices_symMergeCmpFunc_A_v24 n a m b xs)).getD [])
noncomputable def slices_symMergeCmpFunc_A_v22 (R : Nat → Int → Int → Int → List AV → Option (List AV)) (n : Nat) (a : Int) (m : Int) (b : Int) (xs : List AV) : Option (List AV) := R n (slices_symMergeCmpFunc_A_v13 a b) (slices_symMergeCmpFunc_A_v2 n a m b xs) b ((R n a (slices_symMergeCmpFunc_A_v6 n a m b xs) (slices_symMergeCmpFunc_A_v13 a b) (slices_symMergeCmpFunc_A_v23 n a m b xs)).getD [])
noncomputable def slices_symMergeCmpFunc_A_t {T : Type} (R : Nat → Int → Int → Int → List AV → Option (List AV)) (n : Nat) (a : Int) (m : Int) (b : Int) (xs : List AV) (δ : T) (κ : List AV → T) : T := br (IntKind.i64.wrap (m - a) == (1 : Int)) (br ((Iter (slices_symMergeCmpFunc_A_l0_step n a) (m, b, xs)).isSome) (br ((slices_symMergeCmpFunc_A_v16 n a m b xs).isSome) (κ ((slices_symMergeCmpFunc_A_v16 n a m b xs).getD [])) (δ)) (δ)) (br (IntKind.i64.wrap (b - m) == (1 : Int)) (br ((Iter (slices_symMergeCmpFunc_A_l2_step n m) (a, m, xs)).isSome) (br ((slices_symMergeCmpFunc_A_v17 n a m xs).isSome) (κ ((slices_symMergeCmpFunc_A_v17 n a m xs).getD [])) (δ)) (δ)) (br (decide (m > slices_symMergeCmpFunc_A_v13 a b)) (br ((slices_symMergeCmpFunc_A_v18 n a m b xs).isSome) (br (decide (slices_symMergeCmpFunc_A_v6 n a m b xs < m)) (br (decide (m < slices_symMergeCmpFunc_A_v2 n a m b xs)) (br ((slices_rotateCmpFunc_A n (slices_symMergeCmpFunc_A_v6 n a m b xs) m (slices_symMergeCmpFunc_A_v2 n a m b xs) (slices_symMergeCmpFunc_A_v8 n a m b xs)).isSome) (br (slices_symMergeCmpFunc_A_v11 n a m b xs) (br (slices_symMergeCmpFunc_A_v10 n a m b xs) (br ((R n a (slices_symMergeCmpFunc_A_v6 n a m b xs) (slices_symMergeCmpFunc_A_v13 a b) (slices_symMergeCmpFunc_A_v23 n a m b xs)).isSome) (br (slices_symMergeCmpFunc_A_v0 n a m b xs) (br (slices_symMergeCmpFunc_A_v1 n a m b xs) (br ((slices_symMergeCmpFunc_A_v22 R n a m b xs).isSome) (κ ((slices_symMergeCmpFunc_A_v22 R n a m b xs).getD [])) (δ)) (κ ((R n a (slices_symMergeCmpFunc_A_v6 n a m b xs) (slices_symMergeCmpFunc_A_v13 a b) (slices_symMergeCmpFunc_A_v23 n a m b xs)).getD []))) (κ ((R n a (slices_symMergeCmpFunc_A_v6 n a m b xs) (slices_symMergeCmpFunc_A_v13 a b) (slices_symMergeCmpFunc_A_v23 n a m b xs)).getD []))) (δ)) (br (slices_symMergeCmpFunc_A_v0 n a m b xs) (br (slices_symMergeCmpFunc_A_v1 n a m b xs) (br ((R n (slices_symMergeCmpFunc_A_v13 a b) (slices_symMergeCmpFunc_A_v2 n a m b xs) b (slices_symMergeCmpFunc_A_v23 n a m b xs)).isSome) (κ ((R n (slices_symMergeCmpFunc_A_v13 a b) (slices_symMergeCmpFunc_A_v2 n a m b xs) b (slices_symMergeCmpFunc_A_v23 n a m b xs)).getD [])) (δ)) (κ (slices_symMergeCmpFunc_A_v23 n a m b xs))) (κ (slices_symMergeCmpFunc_A_v23 n a m b xs)))) (br (slices_symMergeCmpFunc_A_v0 n a m b xs) (br (slices_symMergeCmpFunc_A_v1 n a m b xs) (br ((R n (slices_symMergeCmpFunc_A_v13 a b) (slices_symMergeCmpFunc_A_v2 n a m b xs) b (slices_symMergeCmpFunc_A_v23 n a m b xs)).isSome) (κ ((R n (slices_symMergeCmpFunc_A_v13 a b) (slices_symMergeCmpFunc_A_v2 n a m b xs) b (slices_symMergeCmpFunc_A_v23 n a m b xs)).getD [])) (δ)) (κ (slices_symMergeCmpFunc_A_v23 n a m b xs))) (κ (slices_symMergeCmpFunc_A_v23 n a m b xs)))) (δ)) (br (slices_symMergeCmpFunc_A_v11 n a m b xs) (br (slices_symMergeCmpFunc_A_v10 n a m b xs) (br ((R n a (slices_symMergeCmpFunc_A_v6 n a m b xs) (slices_symMergeCmpFunc_A_v13 a b) (slices_symMergeCmpFunc_A_v8 n a m b xs)).isSome) (br (slices_symMergeCmpFunc_A_v0 n a m b xs) (br (slices_symMergeCmpFunc_A_v1 n a m b xs) (br ((R n (slices_symMergeCmpFunc_A_v13 a b) (slices_symMergeCmpFunc_A_v2 n a m b xs) b ((R n a (slices_symMergeCmpFunc_A_v6 n a m b xs) (slices_symMergeCmpFunc_A_v13 a b) (slices_symMergeCmpFunc_A_v8 n a m b xs)).getD [])).isSome) (κ ((R n (slices_symMergeCmpFunc_A_v13 a b) (slices_symMergeCmpFunc_A_v2 n a m b xs) b ((R n a (slices_symMergeCmpFunc_A_v6 n a m b xs) (slices_symMergeCmpFunc_A_v13 a b) (slices_symMergeCmpFunc_A_v8 n a m b xs)).getD [])).getD [])) (δ)) (κ ((R n a (slices_symMergeCmpFunc_A_v6 n a m b xs) (slices_symMergeCmpFunc_A_v13 a b) (slices_symMergeCmpFunc_A_v8 n a m b xs)).getD []))) (κ ((R n a (slices_symMergeCmpFunc_A_v6 n a m b xs) (slices_symMergeCmpFunc_A_v13 a b) (slices_symMergeCmpFunc_A_v8 n a m b xs)).getD []))) (δ)) (br (slices_symMergeCmpFunc_A_v0 n a m b xs) (br (slices_symMergeCmpFunc_A_v1 n a m b xs) (br ((R n (slices_symMergeCmpFunc_A_v13 a b) (slices_symMergeCmpFunc_A_v2 n a m b xs) b (slices_symMergeCmpFunc_A_v8 n a m b xs)).isSome) (κ ((R n (slices_symMergeCmpFunc_A_v13 a b) (slices_symMergeCmpFunc_A_v2 n a m b xs) b (slices_symMergeCmpFunc_A_v8 n a m b xs)).getD [])) (δ)) (κ (slices_symMergeCmpFunc_A_v8 n a m b xs))) (κ (slices_symMergeCmpFunc_A_v8 n a m b xs)))) (br (slices_symMergeCmpFunc_A_v0 n a m b xs) (br (slices_symMergeCmpFunc_A_v1 n a m b xs) (br ((R n (slices_symMergeCmpFunc_A_v13 a b) (slices_symMergeCmpFunc_A_v2 n a m b xs) b (slices_symMergeCmpFunc_A_v8 n a m b xs)).isSome) (κ ((R n (slices_symMergeCmpFunc_A_v13 a b) (slices_symMergeCmpFunc_A_v2 n a m b xs) b (slices_symMergeCmpFunc_A_v8 n a m b xs)).getD [])) (δ)) (κ (slices_symMergeCmpFunc_A_v8 n a m b xs))) (κ (slices_symMergeCmpFunc_A_v8 n a m b xs))))) (br (slices_symMergeCmpFunc_A_v11 n a m b xs) (br (slices_symMergeCmpFunc_A_v10 n a m b xs) (br ((R n a (slices_symMergeCmpFunc_A_v6 n a m b xs) (slices_symMergeCmpFunc_A_v13 a b) (slices_symMergeCmpFunc_A_v8 n a m b xs)).isSome) (br (slices_symMergeCmpFunc_A_v0 n a m b xs) (br (slices_symMergeCmpFunc_A_v1 n a m b xs) (br ((R n (slices_symMergeCmpFunc_A_v13 a b) (slices_symMergeCmpFunc_A_v2 n a m b xs) b ((R n a (slices_symMergeCmpFunc_A_v6 n a m b xs) (slices_symMergeCmpFunc_A_v13 a b) (slices_symMergeCmpFunc_A_v8 n a m b xs)).getD [])).isSome) (κ ((R n (slices_symMergeCmpFunc_A_v13 a b) (slices_symMergeCmpFunc_A_v2 n a m b xs) b ((R n a (slices_symMergeCmpFunc_A_v6 n a m b xs) (slices_symMergeCmpFunc_A_v13 a b) (slices_symMergeCmpFunc_A_v8 n a m b xs)).getD [])).getD [])) (δ)) (κ ((R n a (slices_symMergeCmpFunc_A_v6 n a m b xs) (slices_symMergeCmpFunc_A_v13 a b) (slices_symMergeCmpFunc_A_v8 n a m b xs)).getD []))) (κ ((R n a (slices_symMergeCmpFunc_A_v6 n a m b xs) (slices_symMergeCmpFunc_A_v13 a b) (slices_symMergeCmpFunc_A_v8 n a m b xs)).getD []))) (δ)) (br (slices_symMergeCmpFunc_A_v0 n a m b xs) (br (slices_symMergeCmpFunc_A_v1 n a m b xs) (br ((R n (slices_symMergeCmpFunc_A_v13 a b) (slices_symMergeCmpFunc_A_v2 n a m b xs) b (slices_symMergeCmpFunc_A_v8 n a m b xs)).isSome) (κ ((R n (slices_symMergeCmpFunc_A_v13 a b) (slices_symMergeCmpFunc_A_v2 n a m b xs) b (slices_symMergeCmpFunc_A_v8 n a m b xs)).getD [])) (δ)) (κ (slices_symMergeCmpFunc_A_v8 n a m b xs))) (κ (slices_symMergeCmpFunc_A_v8 n a m b xs)))) (br (slices_symMergeCmpFunc_A_v0 n a m b xs) (br (slices_symMergeCmpFunc_A_v1 n a m b xs) (br ((R n (slices_symMergeCmpFunc_A_v13 a b) (slices_symMergeCmpFunc_A_v2 n a m b xs) b (slices_symMergeCmpFunc_A_v8 n a m b xs)).isSome) (κ ((R n (slices_symMergeCmpFunc_A_v13 a b) (slices_symMergeCmpFunc_A_v2 n a m b xs) b (slices_symMergeCmpFunc_A_v8 n a m b xs)).getD [])) (δ)) (κ (slices_symMergeCmpFunc_A_v8 n a m b xs))) (κ (slices_symMergeCmpFunc_A_v8 n a m b xs))))) (δ)) (br ((slices_symMergeCmpFunc_A_v20 n a m b xs).isSome) (br (decide (slices_symMergeCmpFunc_A_v7 n a m b xs < m)) (br (decide (m < slices_symMergeCmpFunc_A_v5 n a m b xs)) (br ((slices_rotateCmpFunc_A n (slices_symMergeCmpFunc_A_v7 n a m b xs) m (slices_symMergeCmpFunc_A_v5 n a m b xs) (slices_symMergeCmpFunc_A_v9 n a m b xs)).isSome) (br (slices_symMergeCmpFunc_A_v14 n a m b xs) (br (slices_symMergeCmpFunc_A_v12 n a m b xs) (br ((R n a (slices_symMergeCmpFunc_A_v7 n a m b xs) (slices_symMergeCmpFunc_A_v13 a b) (slices_symMergeCmpFunc_A_v24 n a m b xs)).isSome) (br (slices_symMergeCmpFunc_A_v3 n a m b xs) (br (slices_symMergeCmpFunc_A_v4 n a m b xs) (br ((slices_symMergeCmpFunc_A_v21 R n a m b xs).isSome) (κ ((slices_symMergeCmpFunc_A_v21 R n a m b xs).getD [])) (δ)) (κ ((R n a (slices_symMergeCmpFunc_A_v7 n a m b xs) (slices_symMergeCmpFunc_A_v13 a b) (slices_symMergeCmpFunc_A_v24 n a m b xs)).getD []))) (κ ((R n a (slices_symMergeCmpFunc_A_v7 n a m b xs) (slices_symMergeCmpFunc_A_v13 a b) (slices_symMergeCmpFunc_A_v24 n a m b xs)).getD []))) (δ)) (br (slices_symMergeCmpFunc_A_v3 n a m b xs) (br (slices_symMergeCmpFunc_A_v4 n a m b xs) (br ((R n (slices_symMergeCmpFunc_A_v13 a b) (slices_symMergeCmpFunc_A_v5 n a m b xs) b (slices_symMergeCmpFunc_A_v24 n a m b xs)).isSome) (κ ((R n (slices_symMergeCmpFunc_A_v13 a b) (slices_symMergeCmpFunc_A_v5 n a m b xs) b (slices_symMergeCmpFunc_A_v24 n a m b xs)).getD [])) (δ)) (κ (slices_symMergeCmpFunc_A_v24 n a m b xs))) (κ (slices_symMergeCmpFunc_A_v24 n a m b xs)))) (br (slices_symMergeCmpFunc_A_v3 n a m b xs) (br (slices_symMergeCmpFunc_A_v4 n a m b xs) (br ((R n (slices_symMergeCmpFunc_A_v13 a b) (slices_symMergeCmpFunc_A_v5 n a m b xs) b (slices_symMergeCmpFunc_A_v24 n a m b xs)).isSome) (κ ((R n (slices_symMergeCmpFunc_A_v13 a b) (slices_symMergeCmpFunc_A_v5 n a m b xs) b (slices_symMergeCmpFunc_A_v24 n a m b xs)).getD [])) (δ)) (κ (slices_symMergeCmpFunc_A_v24 n a m b xs))) (κ (slices_symMergeCmpFunc_A_v24 n a m b xs)))) (δ)) (br (slices_symMergeCmpFunc_A_v14 n a m b xs) (br (slices_symMergeCmpFunc_A_v12 n a m b xs) (br ((R n a (slices_symMergeCmpFunc_A_v7 n a m b xs) (slices_symMergeCmpFunc_A_v13 a b) (slices_symMergeCmpFunc_A_v9 n a m b xs)).isSome) (br (slices_symMergeCmpFunc_A_v3 n a m b xs) (br (slices_symMergeCmpFunc_A_v4 n a m b xs) (br ((R n (slices_symMergeCmpFunc_A_v13 a b) (slices_symMergeCmpFunc_A_v5 n a m b xs) b ((R n a (slices_symMergeCmpFunc_A_v7 n a m b xs) (slices_symMergeCmpFunc_A_v13 a b) (slices_symMergeCmpFunc_A_v9 n a m b xs)).getD [])).isSome) (κ ((R n (slices_symMergeCmpFunc_A_v13 a b) (slices_symMergeCmpFunc_A_v5 n a m b xs) b ((R n a (slices_symMergeCmpFunc_A_v7 n a m b xs) (slices_symMergeCmpFunc_A_v13 a b) (slices_symMergeCmpFunc_A_v9 n a m b xs)).getD [])).getD [])) (δ)) (κ ((R n a (slices_symMergeCmpFunc_A_v7 n a m b xs) (slices_symMergeCmpFunc_A_v13 a b) (slices_symMergeCmpFunc_A_v9 n a m b xs)).getD []))) (κ ((R n a (slices_symMergeCmpFunc_A_v7 n a m b xs) (slices_symMergeCmpFunc_A_v13 a b) (slices_symMergeCmpFunc_A_v9 n a m b xs)).getD []))) (δ)) (br (slices_symMergeCmpFunc_A_v3 n a m b xs) (br (slices_symMergeCmpFunc_A_v4 n a m b xs) (br ((R n (slices_symMergeCmpFunc_A_v13 a b) (slices_symMergeCmpFunc_A_v5 n a m b xs) b (slices_symMergeCmpFunc_A_v9 n a m b xs)).isSome) (κ ((R n (slices_symMergeCmpFunc_A_v13 a b) (slices_symMergeCmpFunc_A_v5 n a m b xs) b (slices_symMergeCmpFunc_A_v9 n a m b xs)).getD [])) (δ)) (κ (slices_symMergeCmpFunc_A_v9 n a m b xs))) (κ (slices_symMergeCmpFunc_A_v9 n a m b xs)))) (br (slices_symMergeCmpFunc_A_v3 n a m b xs) (br (slices_symMergeCmpFunc_A_v4 n a m b xs) (br ((R n (slices_symMergeCmpFunc_A_v13 a b) (slices_symMergeCmpFunc_A_v5 n a m b xs) b (slices_symMergeCmpFunc_A_v9 n a m b xs)).isSome) (κ ((R n (slices_symMergeCmpFunc_A_v13 a b) (slices_symMergeCmpFunc_A_v5 n a m b xs) b (slices_symMergeCmpFunc_A_v9 n a m b xs)).getD [])) (δ)) (κ (slices_symMergeCmpFunc_A_v9 n a m b xs))) (κ (slices_symMergeCmpFunc_A_v9 n a m b xs))))) (br (slices_symMergeCmpFunc_A_v14 n a m b xs) (br (slices_symMergeCmpFunc_A_v12 n a m b xs) (br ((R n a (slices_symMergeCmpFunc_A_v7 n a m b xs) (slices_symMergeCmpFunc_A_v13 a b) (slices_symMergeCmpFunc_A_v9 n a m b xs)).isSome) (br (slices_symMergeCmpFunc_A_v3 n a m b xs) (br (slices_symMergeCmpFunc_A_v4 n a m b xs) (br ((R n (slices_symMergeCmpFunc_A_v13 a b) (slices_symMergeCmpFunc_A_v5 n a m b xs) b ((R n a (slices_symMergeCmpFunc_A_v7 n a m b xs) (slices_symMergeCmpFunc_A_v13 a b) (slices_symMergeCmpFunc_A_v9 n a m b xs)).getD [])).isSome) (κ ((R n (slices_symMergeCmpFunc_A_v13 a b) (slices_symMergeCmpFunc_A_v5 n a m b xs) b ((R n a (slices_symMergeCmpFunc_A_v7 n a m b xs) (slices_symMergeCmpFunc_A_v13 a b) (slices_symMergeCmpFunc_A_v9 n a m b xs)).getD [])).getD [])) (δ)) (κ ((R n a (slices_symMergeCmpFunc_A_v7 n a m b xs) (slices_symMergeCmpFunc_A_v13 a b) (slices_symMergeCmpFunc_A_v9 n a m b xs)).getD []))) (κ ((R n a (slices_symMergeCmpFunc_A_v7 n a m b xs) (slices_symMergeCmpFunc_A_v13 a b) (slices_symMergeCmpFunc_A_v9 n a m b xs)).getD []))) (δ)) (br (slices_symMergeCmpFunc_A_v3 n a m b xs) (br (slices_symMergeCmpFunc_A_v4 n a m b xs) (br ((R n (slices_symMergeCmpFunc_A_v13 a b) (slices_symMergeCmpFunc_A_v5 n a m b xs) b (slices_symMergeCmpFunc_A_v9 n a m b xs)).isSome) (κ ((R n (slices_symMergeCmpFunc_A_v13 a b) (slices_symMergeCmpFunc_A_v5 n a m b xs) b (slices_symMergeCmpFunc_A_v9 n a m b xs)).getD [])) (δ)) (κ (slices_symMergeCmpFunc_A_v9 n a m b xs))) (κ (slices_symMergeCmpFunc_A_v9 n a m b xs)))) (br (slices_symMergeCmpFunc_A_v3 n a m b xs) (br (slices_symMergeCmpFunc_A_v4 n a m b xs) (br ((R n (slices_symMergeCmpFunc_A_v13 a b) (slices_symMergeCmpFunc_A_v5 n a m b xs) b (slices_symMergeCmpFunc_A_v9 n a m b xs)).isSome) (κ ((R n (slices_symMergeCmpFunc_A_v13 a b) (slices_symMergeCmpFunc_A_v5 n a m b xs) b (slices_symMergeCmpFunc_A_v9 n a m b xs)).getD [])) (δ)) (κ (slices_symMergeCmpFunc_A_v9 n a m b xs))) (κ (slices_symMergeCmpFunc_A_v9 n a m b xs))))) (δ))))
noncomputable def slices_symMergeCmpFunc_A (R : Nat → Int → Int → Int → List AV → Option (List AV)) (n : Nat) (a : Int) (m : Int) (b : Int) (xs : List AV) : Option (List AV) := slices_symMergeCmpFunc_A_t R n a m b xs none some
theorem slices_symMergeCmpFunc_A_x (R : Nat → Int → Int → Int → List AV → Option (List AV)) (n : Nat) (a : Int) (m : Int) (b : Int) (xs : List AV) : Enc (fun (p : List AV) => (((AV.tuple [], ([⟨0, (1 : Nat), (22 : Nat), p, false, true⟩] : List Box))) : (AV × List Box))) (slices_symMergeCmpFunc_A R n a m b xs) (XFM Tryd.prog (slices_symMergeCmpFunc_A_ER R) Tryd.f80 (Tryd.f80.body.getD .skip) [AV.osl (0 : Nat) (0 : Nat) (0 : Nat) n, AV.int IntKind.i64 a, AV.int IntKind.i64 m, AV.int IntKind.i64 b, AV.func (10 : FuncId) []] [{ ver := (0 : Nat), sz := (1 : Nat), ty := (22 : TypeId), xs := xs, frz := false, pm := true }]) := by
  have h : XFM Tryd.prog (slices_symMergeCmpFunc_A_ER R) Tryd.f80 (Tryd.f80.body.getD .skip) [AV.osl (0 : Nat) (0 : Nat) (0 : Nat) n, AV.int IntKind.i64 a, AV.int IntKind.i64 m, AV.int IntKind.i64 b, AV.func (10 : FuncId) []] [{ ver := (0 : Nat), sz := (1 : Nat), ty := (22 : TypeId), xs := xs, frz := false, pm := true }] = slices_symMergeCmpFunc_A_t R n a m b xs none (fun (p : List AV) => some (((AV.tuple [], ([⟨0, (1 : Nat), (22 : Nat), p, false, true⟩] : List Box))) : (AV × List Box))) := by kernel_rfl
  rw [h]; unfold slices_symMergeCmpFunc_A slices_symMergeCmpFunc_A_t; repeat' (first | exact Enc.none | exact Enc.some rfl | refine Enc.br ?_ ?_)
noncomputable def slices_symMergeCmpFunc_A_o (R : Nat → Int → Int → Int → List AV → Option (List AV)) : List AV → List Box → Option (Bool × AV × List Box) := omOf (sCons (sEq (pOsl (0 : Nat) (0 : Nat) (0 : Nat))) (sCons (sEq (pInt IntKind.i64)) (sCons (sEq (pInt IntKind.i64)) (sCons (sEq (pInt IntKind.i64)) (sCons (sEq (pFunc (10 : FuncId) pNil)) sNil))))) (pCons (pBox (0 : Nat) (1 : Nat) (22 : TypeId) false true pAny) pNil) fun (n, (a, (m, (b, (_, _))))) (xs, _) => ((slices_symMergeCmpFunc_A R n a m b xs).isSome, ((AV.tuple [], ([⟨0, (1 : Nat), (22 : Nat), ((slices_symMergeCmpFunc_A R n a m b xs).getD []), false, true⟩] : List Box))))
theorem slices_symMergeCmpFunc_A_c (R : Nat → Int → Int → Int → List AV → Option (List AV)) (hR : slices_symMergeCmpFunc_A_ER_hR R) : OmOk Tryd.prog ITryd 80 (slices_symMergeCmpFunc_A_o R) := omOk_of fun vv bb rr hh' hh => by
  obtain ⟨n, ⟨a, ⟨m, ⟨b, ⟨_, _⟩⟩⟩⟩⟩ := vv
  obtain ⟨xs, _⟩ := bb
  obtain ⟨hh1, hh2⟩ := Prod.mk.inj hh
  refine goodM_pin (p := (slices_symMergeCmpFunc_A_ER R).pin) (goodM_XFM mxTryd (inv0Ok Tryd.prog _) rfl (slices_symMergeCmpFunc_A_ER_ok R hR) rfl Tryd.func80 rfl (by kernel_rfl) (slices_symMergeCmpFunc_A_ER_lk80 R) ((slices_symMergeCmpFunc_A_x R _ _ _ _ _ _ (getD_of_isSome (d := []) hh1)).trans ?_))
  exact congrArg some hh2


noncomputable def slices_symMergeCmpFunc_A_R : Nat → Nat → Int → Int → Int → List AV → Option (List AV)
  | 0 => fun _ _ _ _ _ => none
  | fu_ + 1 => fun n a m b xs => slices_symMergeCmpFunc_A (slices_symMergeCmpFunc_A_R fu_) n a m b xs

theorem slices_symMergeCmpFunc_A_R_ok : ∀ n, slices_symMergeCmpFunc_A_ER_hR (slices_symMergeCmpFunc_A_R n)
  | 0 => omOk_of fun _ _ _ _ h => absurd (Prod.mk.inj h).1 Bool.false_ne_true
  | fu_ + 1 => fun xs H r H1 h => slices_symMergeCmpFunc_A_c (slices_symMergeCmpFunc_A_R fu_) (slices_symMergeCmpFunc_A_R_ok fu_) xs H r H1 h

noncomputable def EL4_4 : Env := EL4_3.withM 80 (slices_symMergeCmpFunc_A_recO (slices_symMergeCmpFunc_A_R 1000))

theorem EL4_4_ok : OrcOk Tryd.prog ITryd EL4_4 := EL4_3_ok.withM (slices_symMergeCmpFunc_A_R_ok _)

noncomputable abbrev EL4 : Env := EL4_4

theorem EL4_ok : OrcOk Tryd.prog ITryd EL4 := EL4_4_ok

end Go.Sim.M
