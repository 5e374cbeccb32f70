/- Functions of the program as the executor found them: printed by program, checked by the kernel. -/
import Derived.Test.YtlapjnnkblbhdaaDoorL5
set_option linter.unusedVariables false
set_option linter.unusedSimpArgs false
set_option maxRecDepth 100000
namespace Go.Sim.M
open Go.RowKit Go.Proofs

/-- The environment of slices.insertionSortCmpFunc   bitemporal/api.Value : its loops so far. -/

noncomputable def slices_insertionSortCmpFunc_B_E0 : Env := EL5.fn 53 1 (lsOf [22]) (lpsOf [])

theorem slices_insertionSortCmpFunc_B_E0_ok : OrcOk Tryd.prog (ITryd.at 1) slices_insertionSortCmpFunc_B_E0 := EL5_ok.fn

theorem slices_insertionSortCmpFunc_B_E0_lk79_1 : LoOk Tryd.prog (ITryd.at slices_insertionSortCmpFunc_B_E0.pin) slices_insertionSortCmpFunc_B_E0 (loopAt Tryd.f79 1) := loOk_nil (by kernel_rfl)

/- 31 nodes -/
noncomputable def slices_insertionSortCmpFunc_B_l1_v0 (data : Nat) (j : Int) : Bool := decide ((0 : Int) ≤ IntKind.i64.wrap (j - (1 : Int))) && decide (IntKind.i64.wrap (j - (1 : Int)) < (↑data : Int))
noncomputable def slices_insertionSortCmpFunc_B_l1_v4 (j : Int) : Nat := (0 : Nat) + (IntKind.i64.wrap (j - (1 : Int))).toNat
noncomputable def slices_insertionSortCmpFunc_B_l1_v5 (data : Nat) (j : Int) : Bool := decide ((0 : Int) ≤ j) && decide (j < (↑data : Int))
noncomputable def slices_insertionSortCmpFunc_B_l1_v6 (j : Int) (data_xs : List AV) : Bool := decide ((0 : Nat) + j.toNat < data_xs.length)
noncomputable def slices_insertionSortCmpFunc_B_l1_v7 (j : Int) (data_xs : List AV) : List AV := ((data_xs.getD ((0 : Nat) + j.toNat) AV.top).cells.getD (0 : Nat) AV.top).toList
noncomputable def slices_insertionSortCmpFunc_B_l1_v1 (j : Int) (data_xs : List AV) : Bool := decide (slices_insertionSortCmpFunc_B_l1_v4 j < data_xs.length) && hasSh1 (Sh.list (3 : Nat)) ((data_xs.getD (slices_insertionSortCmpFunc_B_l1_v4 j) AV.top).cells.getD (0 : Nat) AV.top)
noncomputable def slices_insertionSortCmpFunc_B_l1_v2 (j : Int) (data_xs : List AV) : Bool := slices_insertionSortCmpFunc_B_l1_v6 j data_xs && hasSh1 (Sh.list (3 : Nat)) ((data_xs.getD ((0 : Nat) + j.toNat) AV.top).cells.getD (0 : Nat) AV.top)
noncomputable def slices_insertionSortCmpFunc_B_l1_v3 (j : Int) (data_xs : List AV) : List AV := ((data_xs.getD (slices_insertionSortCmpFunc_B_l1_v4 j) AV.top).cells.getD (0 : Nat) AV.top).toList
noncomputable def slices_insertionSortCmpFunc_B_l1_t {T : Type} (data : Nat) (a : Int) (b : Int) (cmp : List AV) (i : Int) (j : Int) (data_xs : List AV) (δ : T) (κl : (Int × List AV) → T) (κr : (List AV) → T) : T := br (decide (j > a)) (br (slices_insertionSortCmpFunc_B_l1_v5 data j) (br (slices_insertionSortCmpFunc_B_l1_v2 j data_xs) (br (slices_insertionSortCmpFunc_B_l1_v0 data j) (br (slices_insertionSortCmpFunc_B_l1_v1 j data_xs) (br (tuple_Order1_pre (slices_insertionSortCmpFunc_B_l1_v7 j data_xs) (slices_insertionSortCmpFunc_B_l1_v3 j data_xs) cmp) (br (decide (tuple_Order1 (slices_insertionSortCmpFunc_B_l1_v7 j data_xs) (slices_insertionSortCmpFunc_B_l1_v3 j data_xs) cmp < (0 : Int))) (br (slices_insertionSortCmpFunc_B_l1_v0 data j) (br (slices_insertionSortCmpFunc_B_l1_v1 j data_xs) (br (slices_insertionSortCmpFunc_B_l1_v5 data j) (br (slices_insertionSortCmpFunc_B_l1_v2 j data_xs) (br (slices_insertionSortCmpFunc_B_l1_v5 data j) (br (slices_insertionSortCmpFunc_B_l1_v6 j data_xs) (br (slices_insertionSortCmpFunc_B_l1_v0 data j) (br (decide (slices_insertionSortCmpFunc_B_l1_v4 j < (data_xs.set ((0 : Nat) + j.toNat) (AV.list (3 : Nat) (slices_insertionSortCmpFunc_B_l1_v3 j data_xs))).length)) (κl (IntKind.i64.wrap (j - (1 : Int)), (data_xs.set ((0 : Nat) + j.toNat) (AV.list (3 : Nat) (slices_insertionSortCmpFunc_B_l1_v3 j data_xs))).set (slices_insertionSortCmpFunc_B_l1_v4 j) (AV.list (3 : Nat) (slices_insertionSortCmpFunc_B_l1_v7 j data_xs)))) (δ)) (δ)) (δ)) (δ)) (δ)) (δ)) (δ)) (δ)) (κr (data_xs))) (δ)) (δ)) (δ)) (δ)) (δ)) (κr (data_xs))
noncomputable def slices_insertionSortCmpFunc_B_l1_step (data : Nat) (a : Int) (b : Int) (cmp : List AV) (i : Int) : (Int × List AV) → Option ((Int × List AV) ⊕ (List AV)) := fun (j, data_xs) => slices_insertionSortCmpFunc_B_l1_t data a b cmp i j data_xs none (fun s => some (.inl s)) (fun p => some (.inr p))
noncomputable def slices_insertionSortCmpFunc_B_l1_L (data : Nat) (a : Int) (b : Int) (cmp : List AV) (i : Int) : (Int × List AV) → List AV × List Box := fun (j, data_xs) => ([AV.osl 0 0 0 data, AV.int IntKind.i64 a, AV.int IntKind.i64 b, AV.func (38 : Nat) [AV.eptr (1 : Nat) [AV.list (2 : Nat) cmp] 0 0], AV.int IntKind.i64 i, AV.int IntKind.i64 j], [⟨0, (1 : Nat), (22 : Nat), data_xs, false, true⟩])
noncomputable def slices_insertionSortCmpFunc_B_l1_out (data : Nat) (a : Int) (b : Int) (cmp : List AV) (i : Int) : (List AV) → LR := fun p => (.leaf (Exit.exit (2 : Nat)) [AV.osl 0 0 0 data, AV.int IntKind.i64 a, AV.int IntKind.i64 b, AV.func (38 : Nat) [AV.eptr (1 : Nat) [AV.list (2 : Nat) cmp] 0 0], AV.int IntKind.i64 i] [⟨0, (1 : Nat), (22 : Nat), p, false, true⟩])
noncomputable abbrev slices_insertionSortCmpFunc_B_l1_X (vals : List AV) (H : List Box) := XR Tryd.prog slices_insertionSortCmpFunc_B_E0 [0, 1, 2, 3, 8, 9] [0, 1, 2, 3, 8] [] (loopAt Tryd.f79 1) vals H
theorem slices_insertionSortCmpFunc_B_l1_r (data : Nat) (a : Int) (b : Int) (cmp : List AV) (i : Int) (s : Int × List AV) : Enc (encR (slices_insertionSortCmpFunc_B_l1_L data a b cmp i) (slices_insertionSortCmpFunc_B_l1_out data a b cmp i)) (slices_insertionSortCmpFunc_B_l1_step data a b cmp i s) (slices_insertionSortCmpFunc_B_l1_X (slices_insertionSortCmpFunc_B_l1_L data a b cmp i s).1 (slices_insertionSortCmpFunc_B_l1_L data a b cmp i s).2) := by
  obtain ⟨j, data_xs⟩ := s
  have h : slices_insertionSortCmpFunc_B_l1_X (slices_insertionSortCmpFunc_B_l1_L data a b cmp i (j, data_xs)).1 (slices_insertionSortCmpFunc_B_l1_L data a b cmp i (j, data_xs)).2 = slices_insertionSortCmpFunc_B_l1_t data a b cmp i j data_xs none (fun s => some (encR (slices_insertionSortCmpFunc_B_l1_L data a b cmp i) (slices_insertionSortCmpFunc_B_l1_out data a b cmp i) (.inl s))) (fun p => some (encR (slices_insertionSortCmpFunc_B_l1_L data a b cmp i) (slices_insertionSortCmpFunc_B_l1_out data a b cmp i) (.inr p))) := by kernel_rfl
  rw [h]; unfold slices_insertionSortCmpFunc_B_l1_step slices_insertionSortCmpFunc_B_l1_t; repeat' (first | exact Enc.none | exact Enc.some rfl | refine Enc.br ?_ ?_)
noncomputable def slices_insertionSortCmpFunc_B_l1_lp : Lp := lpOf [0, 1, 2, 3, 8, 9] [0, 1, 2, 3, 8] [] (pCons (pOsl (0 : Nat) (0 : Nat) (0 : Nat)) (pCons (pInt IntKind.i64) (pCons (pInt IntKind.i64) (pCons (pFunc (38 : Nat) (pCons (pEptr (1 : Nat) (0 : Nat) (0 : Nat) (pCons (pList (2 : Nat) pAny) pNil)) pNil)) (pCons (pInt IntKind.i64) (pCons (pInt IntKind.i64) pNil)))))) (pCons (pBox (0 : Nat) (1 : Nat) (22 : Nat) false true pAny) pNil) fun (data, (a, (b, (((cmp, _), _), (i, (j, _)))))) (data_xs, _) => ((Iter (slices_insertionSortCmpFunc_B_l1_step data a b cmp i) (j, data_xs)).isSome, slices_insertionSortCmpFunc_B_l1_out data a b cmp i ((Iter (slices_insertionSortCmpFunc_B_l1_step data a b cmp i) (j, data_xs)).getD []))
theorem slices_insertionSortCmpFunc_B_l1_lok : LoopOk Tryd.prog (ITryd.at slices_insertionSortCmpFunc_B_E0.pin) slices_insertionSortCmpFunc_B_E0.nt (loopAt Tryd.f79 1) slices_insertionSortCmpFunc_B_l1_lp := lok_of fun vv bb rr hh => by
  obtain ⟨data, ⟨a, ⟨b, ⟨⟨⟨cmp, _⟩, _⟩, ⟨i, ⟨j, _⟩⟩⟩⟩⟩⟩ := vv
  obtain ⟨data_xs, _⟩ := bb
  obtain ⟨hh1, rfl⟩ := Prod.mk.inj hh
  exact loop_of_XR mxTryd (inv0Ok Tryd.prog _) rfl slices_insertionSortCmpFunc_B_E0_ok slices_insertionSortCmpFunc_B_E0_lk79_1 (slices_insertionSortCmpFunc_B_l1_L data a b cmp i) (slices_insertionSortCmpFunc_B_l1_out data a b cmp i) (fun p => by simp only [slices_insertionSortCmpFunc_B_l1_out, LR.eval]; first | (simp; done) | (repeat' split <;> simp)) (slices_insertionSortCmpFunc_B_l1_r data a b cmp i) (s := (j, data_xs)) (getD_of_isSome hh1)


/-- The environment of slices.insertionSortCmpFunc   bitemporal/api.Value : its loops so far. -/

noncomputable def slices_insertionSortCmpFunc_B_E1 : Env := EL5.fn 53 1 (lsOf [22]) (lpsOf [(4, slices_insertionSortCmpFunc_B_l1_lp)])

theorem slices_insertionSortCmpFunc_B_E1_ok : OrcOk Tryd.prog (ITryd.at 1) slices_insertionSortCmpFunc_B_E1 := EL5_ok.fn

theorem slices_insertionSortCmpFunc_B_E1_lk79_0 : LoOk Tryd.prog (ITryd.at slices_insertionSortCmpFunc_B_E1.pin) slices_insertionSortCmpFunc_B_E1 (loopAt Tryd.f79 0) := loOk_all (ls := [loopAt Tryd.f79 1]) (by kernel_rfl) (fun l hl lp hs => by
  simp only [List.mem_cons, List.not_mem_nil, or_false] at hl
  rcases hl with rfl
  · rw [show slices_insertionSortCmpFunc_B_E1.lp (codeId (loopAt Tryd.f79 1)) = some slices_insertionSortCmpFunc_B_l1_lp by kernel_rfl] at hs
    simp only [Option.some.injEq] at hs; subst hs; exact slices_insertionSortCmpFunc_B_l1_lok)

/- 5 nodes -/
noncomputable def slices_insertionSortCmpFunc_B_l0_t {T : Type} (data : Nat) (a : Int) (b : Int) (cmp : List AV) (i : Int) (data_xs : List AV) (δ : T) (κl : (Int × List AV) → T) (κr : (List AV) → T) : T := br (decide (i < b)) (br ((Iter (slices_insertionSortCmpFunc_B_l1_step data a b cmp i) (i, data_xs)).isSome) (κl (IntKind.i64.wrap (i + (1 : Int)), (Iter (slices_insertionSortCmpFunc_B_l1_step data a b cmp i) (i, data_xs)).getD [])) (δ)) (κr (data_xs))
noncomputable def slices_insertionSortCmpFunc_B_l0_step (data : Nat) (a : Int) (b : Int) (cmp : List AV) : (Int × List AV) → Option ((Int × List AV) ⊕ (List AV)) := fun (i, data_xs) => slices_insertionSortCmpFunc_B_l0_t data a b cmp i data_xs none (fun s => some (.inl s)) (fun p => some (.inr p))
noncomputable def slices_insertionSortCmpFunc_B_l0_L (data : Nat) (a : Int) (b : Int) (cmp : List AV) : (Int × List AV) → List AV × List Box := fun (i, data_xs) => ([AV.osl 0 0 0 data, AV.int IntKind.i64 a, AV.int IntKind.i64 b, AV.func (38 : Nat) [AV.eptr (1 : Nat) [AV.list (2 : Nat) cmp] 0 0], AV.int IntKind.i64 i], [⟨0, (1 : Nat), (22 : Nat), data_xs, false, true⟩])
noncomputable def slices_insertionSortCmpFunc_B_l0_out (data : Nat) (a : Int) (b : Int) (cmp : List AV) : (List AV) → LR := fun p => (.leaf (Exit.exit (0 : Nat)) [] [⟨0, (1 : Nat), (22 : Nat), p, false, true⟩])
noncomputable abbrev slices_insertionSortCmpFunc_B_l0_X (vals : List AV) (H : List Box) := XR Tryd.prog slices_insertionSortCmpFunc_B_E1 [0, 1, 2, 3, 8] [] [] (loopAt Tryd.f79 0) vals H
theorem slices_insertionSortCmpFunc_B_l0_r (data : Nat) (a : Int) (b : Int) (cmp : List AV) (s : Int × List AV) : Enc (encR (slices_insertionSortCmpFunc_B_l0_L data a b cmp) (slices_insertionSortCmpFunc_B_l0_out data a b cmp)) (slices_insertionSortCmpFunc_B_l0_step data a b cmp s) (slices_insertionSortCmpFunc_B_l0_X (slices_insertionSortCmpFunc_B_l0_L data a b cmp s).1 (slices_insertionSortCmpFunc_B_l0_L data a b cmp s).2) := by
  obtain ⟨i, data_xs⟩ := s
  have h : slices_insertionSortCmpFunc_B_l0_X (slices_insertionSortCmpFunc_B_l0_L data a b cmp (i, data_xs)).1 (slices_insertionSortCmpFunc_B_l0_L data a b cmp (i, data_xs)).2 = slices_insertionSortCmpFunc_B_l0_t data a b cmp i data_xs none (fun s => some (encR (slices_insertionSortCmpFunc_B_l0_L data a b cmp) (slices_insertionSortCmpFunc_B_l0_out data a b cmp) (.inl s))) (fun p => some (encR (slices_insertionSortCmpFunc_B_l0_L data a b cmp) (slices_insertionSortCmpFunc_B_l0_out data a b cmp) (.inr p))) := by kernel_rfl
  rw [h]; unfold slices_insertionSortCmpFunc_B_l0_step slices_insertionSortCmpFunc_B_l0_t; repeat' (first | exact Enc.none | exact Enc.some rfl | refine Enc.br ?_ ?_)
noncomputable def slices_insertionSortCmpFunc_B_l0_lp : Lp := lpOf [0, 1, 2, 3, 8] [] [] (pCons (pOsl (0 : Nat) (0 : Nat) (0 : Nat)) (pCons (pInt IntKind.i64) (pCons (pInt IntKind.i64) (pCons (pFunc (38 : Nat) (pCons (pEptr (1 : Nat) (0 : Nat) (0 : Nat) (pCons (pList (2 : Nat) pAny) pNil)) pNil)) (pCons (pInt IntKind.i64) pNil))))) (pCons (pBox (0 : Nat) (1 : Nat) (22 : Nat) false true pAny) pNil) fun (data, (a, (b, (((cmp, _), _), (i, _))))) (data_xs, _) => ((Iter (slices_insertionSortCmpFunc_B_l0_step data a b cmp) (i, data_xs)).isSome, slices_insertionSortCmpFunc_B_l0_out data a b cmp ((Iter (slices_insertionSortCmpFunc_B_l0_step data a b cmp) (i, data_xs)).getD []))
theorem slices_insertionSortCmpFunc_B_l0_lok : LoopOk Tryd.prog (ITryd.at slices_insertionSortCmpFunc_B_E1.pin) slices_insertionSortCmpFunc_B_E1.nt (loopAt Tryd.f79 0) slices_insertionSortCmpFunc_B_l0_lp := lok_of fun vv bb rr hh => by
  obtain ⟨data, ⟨a, ⟨b, ⟨⟨⟨cmp, _⟩, _⟩, ⟨i, _⟩⟩⟩⟩⟩ := vv
  obtain ⟨data_xs, _⟩ := bb
  obtain ⟨hh1, rfl⟩ := Prod.mk.inj hh
  exact loop_of_XR mxTryd (inv0Ok Tryd.prog _) rfl slices_insertionSortCmpFunc_B_E1_ok slices_insertionSortCmpFunc_B_E1_lk79_0 (slices_insertionSortCmpFunc_B_l0_L data a b cmp) (slices_insertionSortCmpFunc_B_l0_out data a b cmp) (fun p => by simp only [slices_insertionSortCmpFunc_B_l0_out, LR.eval]; first | (simp; done) | (repeat' split <;> simp)) (slices_insertionSortCmpFunc_B_l0_r data a b cmp) (s := (i, data_xs)) (getD_of_isSome hh1)


/-- The environment of slices.insertionSortCmpFunc   bitemporal/api.Value : its loops so far. -/

noncomputable def slices_insertionSortCmpFunc_B_E2 : Env := EL5.fn 53 1 (lsOf [22]) (lpsOf [(4, slices_insertionSortCmpFunc_B_l1_lp), (1, slices_insertionSortCmpFunc_B_l0_lp)])

theorem slices_insertionSortCmpFunc_B_E2_ok : OrcOk Tryd.prog (ITryd.at 1) slices_insertionSortCmpFunc_B_E2 := EL5_ok.fn

theorem slices_insertionSortCmpFunc_B_E2_lk79 : LoOk Tryd.prog (ITryd.at slices_insertionSortCmpFunc_B_E2.pin) slices_insertionSortCmpFunc_B_E2 (Tryd.f79.body.getD .skip) := loOk_all (ls := [loopAt Tryd.f79 0, loopAt Tryd.f79 1]) (by kernel_rfl) (fun l hl lp hs => by
  simp only [List.mem_cons, List.not_mem_nil, or_false] at hl
  rcases hl with rfl | rfl
  · rw [show slices_insertionSortCmpFunc_B_E2.lp (codeId (loopAt Tryd.f79 0)) = some slices_insertionSortCmpFunc_B_l0_lp by kernel_rfl] at hs
    simp only [Option.some.injEq] at hs; subst hs; exact slices_insertionSortCmpFunc_B_l0_lok
  · rw [show slices_insertionSortCmpFunc_B_E2.lp (codeId (loopAt Tryd.f79 1)) = some slices_insertionSortCmpFunc_B_l1_lp by kernel_rfl] at hs
    simp only [Option.some.injEq] at hs; subst hs; exact slices_insertionSortCmpFunc_B_l1_lok)

/- 3 nodes -/
noncomputable def slices_insertionSortCmpFunc_B_t {T : Type} (n : Nat) (a : Int) (b : Int) (o : List AV) (xs : List AV) (δ : T) (κ : List AV → T) : T := br ((Iter (slices_insertionSortCmpFunc_B_l0_step n a b o) (IntKind.i64.wrap (a + (1 : Int)), xs)).isSome) (κ ((Iter (slices_insertionSortCmpFunc_B_l0_step n a b o) (IntKind.i64.wrap (a + (1 : Int)), xs)).getD [])) (δ)
noncomputable def slices_insertionSortCmpFunc_B (n : Nat) (a : Int) (b : Int) (o : List AV) (xs : List AV) : Option (List AV) := slices_insertionSortCmpFunc_B_t n a b o xs none some
theorem slices_insertionSortCmpFunc_B_x (n : Nat) (a : Int) (b : Int) (o : List AV) (xs : List AV) : Enc (fun (p : List AV) => (((AV.tuple [], ([⟨0, (1 : Nat), (22 : Nat), p, false, true⟩] : List Box))) : (AV × List Box))) (slices_insertionSortCmpFunc_B n a b o xs) (XFM Tryd.prog slices_insertionSortCmpFunc_B_E2 Tryd.f79 (Tryd.f79.body.getD .skip) [AV.osl (0 : Nat) (0 : Nat) (0 : Nat) n, AV.int IntKind.i64 a, AV.int IntKind.i64 b, AV.func (38 : FuncId) [AV.eptr (1 : Nat) [AV.list (2 : Nat) o] (0 : Nat) (0 : Nat)]] [{ ver := (0 : Nat), sz := (1 : Nat), ty := (22 : TypeId), xs := xs, frz := false, pm := true }]) := by
  have h : XFM Tryd.prog slices_insertionSortCmpFunc_B_E2 Tryd.f79 (Tryd.f79.body.getD .skip) [AV.osl (0 : Nat) (0 : Nat) (0 : Nat) n, AV.int IntKind.i64 a, AV.int IntKind.i64 b, AV.func (38 : FuncId) [AV.eptr (1 : Nat) [AV.list (2 : Nat) o] (0 : Nat) (0 : Nat)]] [{ ver := (0 : Nat), sz := (1 : Nat), ty := (22 : TypeId), xs := xs, frz := false, pm := true }] = slices_insertionSortCmpFunc_B_t n a b o xs none (fun (p : List AV) => some (((AV.tuple [], ([⟨0, (1 : Nat), (22 : Nat), p, false, true⟩] : List Box))) : (AV × List Box))) := by kernel_rfl
  rw [h]; unfold slices_insertionSortCmpFunc_B slices_insertionSortCmpFunc_B_t; repeat' (first | exact Enc.none | exact Enc.some rfl | refine Enc.br ?_ ?_)
noncomputable def slices_insertionSortCmpFunc_B_o : List AV → List Box → Option (Bool × AV × List Box) := omOf (sCons (sEq (pOsl (0 : Nat) (0 : Nat) (0 : Nat))) (sCons (sEq (pInt IntKind.i64)) (sCons (sEq (pInt IntKind.i64)) (sCons (sEq (pFunc (38 : FuncId) (pCons (pEptr (1 : Nat) (0 : Nat) (0 : Nat) (pCons (pList (2 : Nat) pAny) pNil)) pNil))) sNil)))) (pCons (pBox (0 : Nat) (1 : Nat) (22 : TypeId) false true pAny) pNil) fun (n, (a, (b, (((o, _), _), _)))) (xs, _) => ((slices_insertionSortCmpFunc_B n a b o xs).isSome, ((AV.tuple [], ([⟨0, (1 : Nat), (22 : Nat), ((slices_insertionSortCmpFunc_B n a b o xs).getD []), false, true⟩] : List Box))))
theorem slices_insertionSortCmpFunc_B_c : OmOk Tryd.prog ITryd 79 (slices_insertionSortCmpFunc_B_o) := omOk_of fun vv bb rr hh' hh => by
  obtain ⟨n, ⟨a, ⟨b, ⟨⟨⟨o, _⟩, _⟩, _⟩⟩⟩⟩ := vv
  obtain ⟨xs, _⟩ := bb
  obtain ⟨hh1, hh2⟩ := Prod.mk.inj hh
  refine goodM_pin (p := slices_insertionSortCmpFunc_B_E2.pin) (goodM_XFM mxTryd (inv0Ok Tryd.prog _) rfl slices_insertionSortCmpFunc_B_E2_ok rfl Tryd.func79 rfl (by kernel_rfl) slices_insertionSortCmpFunc_B_E2_lk79 ((slices_insertionSortCmpFunc_B_x _ _ _ _ _ _ (getD_of_isSome (d := []) hh1)).trans ?_))
  exact congrArg some hh2


noncomputable def EL6_1 : Env := EL5.withM 79 slices_insertionSortCmpFunc_B_o

theorem EL6_1_ok : OrcOk Tryd.prog ITryd EL6_1 := EL5_ok.withM slices_insertionSortCmpFunc_B_c

/-- The environment of slices.swapRangeCmpFunc   bitemporal/api.Value : its loops so far. -/

noncomputable def slices_swapRangeCmpFunc_B_E0 : Env := EL6_1.fn 38 1 (lsOf [22]) (lpsOf [])

theorem slices_swapRangeCmpFunc_B_E0_ok : OrcOk Tryd.prog (ITryd.at 1) slices_swapRangeCmpFunc_B_E0 := EL6_1_ok.fn

theorem slices_swapRangeCmpFunc_B_E0_lk96_0 : LoOk Tryd.prog (ITryd.at slices_swapRangeCmpFunc_B_E0.pin) slices_swapRangeCmpFunc_B_E0 (loopAt Tryd.f96 0) := loOk_nil (by kernel_rfl)

/- 19 nodes -/
noncomputable def slices_swapRangeCmpFunc_B_l0_v0 (a : Int) (i : Int) (data_xs : List AV) : Bool := decide ((0 : Nat) + (IntKind.i64.wrap (a + i)).toNat < data_xs.length)
noncomputable def slices_swapRangeCmpFunc_B_l0_v1 (data : Nat) (a : Int) (i : Int) : Bool := decide ((0 : Int) ≤ IntKind.i64.wrap (a + i)) && decide (IntKind.i64.wrap (a + i) < (↑data : Int))
noncomputable def slices_swapRangeCmpFunc_B_l0_v2 (data : Nat) (b : Int) (i : Int) : Bool := decide ((0 : Int) ≤ IntKind.i64.wrap (b + i)) && decide (IntKind.i64.wrap (b + i) < (↑data : Int))
noncomputable def slices_swapRangeCmpFunc_B_l0_v4 (b : Int) (i : Int) : Nat := (0 : Nat) + (IntKind.i64.wrap (b + i)).toNat
noncomputable def slices_swapRangeCmpFunc_B_l0_v3 (a : Int) (b : Int) (i : Int) (data_xs : List AV) : List AV := data_xs.set ((0 : Nat) + (IntKind.i64.wrap (a + i)).toNat) (AV.list (3 : Nat) ((data_xs.getD (slices_swapRangeCmpFunc_B_l0_v4 b i) AV.top).cells.getD (0 : Nat) AV.top).toList)
noncomputable def slices_swapRangeCmpFunc_B_l0_t {T : Type} (data : Nat) (a : Int) (b : Int) (n : Int) (i : Int) (data_xs : List AV) (δ : T) (κl : (Int × List AV) → T) (κr : (List AV) → T) : T := br (decide (i < n)) (br (slices_swapRangeCmpFunc_B_l0_v2 data b i) (br (decide (slices_swapRangeCmpFunc_B_l0_v4 b i < data_xs.length) && hasSh1 (Sh.list (3 : Nat)) ((data_xs.getD (slices_swapRangeCmpFunc_B_l0_v4 b i) AV.top).cells.getD (0 : Nat) AV.top)) (br (slices_swapRangeCmpFunc_B_l0_v1 data a i) (br (slices_swapRangeCmpFunc_B_l0_v0 a i data_xs && hasSh1 (Sh.list (3 : Nat)) ((data_xs.getD ((0 : Nat) + (IntKind.i64.wrap (a + i)).toNat) AV.top).cells.getD (0 : Nat) AV.top)) (br (slices_swapRangeCmpFunc_B_l0_v1 data a i) (br (slices_swapRangeCmpFunc_B_l0_v0 a i data_xs) (br (slices_swapRangeCmpFunc_B_l0_v2 data b i) (br (decide (slices_swapRangeCmpFunc_B_l0_v4 b i < (slices_swapRangeCmpFunc_B_l0_v3 a b i data_xs).length)) (κl (IntKind.i64.wrap (i + (1 : Int)), (slices_swapRangeCmpFunc_B_l0_v3 a b i data_xs).set (slices_swapRangeCmpFunc_B_l0_v4 b i) (AV.list (3 : Nat) ((data_xs.getD ((0 : Nat) + (IntKind.i64.wrap (a + i)).toNat) AV.top).cells.getD (0 : Nat) AV.top).toList))) (δ)) (δ)) (δ)) (δ)) (δ)) (δ)) (δ)) (δ)) (κr (data_xs))
noncomputable def slices_swapRangeCmpFunc_B_l0_step (data : Nat) (a : Int) (b : Int) (n : Int) : (Int × List AV) → Option ((Int × List AV) ⊕ (List AV)) := fun (i, data_xs) => slices_swapRangeCmpFunc_B_l0_t data a b n i data_xs none (fun s => some (.inl s)) (fun p => some (.inr p))
noncomputable def slices_swapRangeCmpFunc_B_l0_L (data : Nat) (a : Int) (b : Int) (n : Int) : (Int × List AV) → List AV × List Box := fun (i, data_xs) => ([AV.osl 0 0 0 data, AV.int IntKind.i64 a, AV.int IntKind.i64 b, AV.int IntKind.i64 n, AV.int IntKind.i64 i], [⟨0, (1 : Nat), (22 : Nat), data_xs, false, true⟩])
noncomputable def slices_swapRangeCmpFunc_B_l0_out (data : Nat) (a : Int) (b : Int) (n : Int) : (List AV) → LR := fun p => (.leaf (Exit.exit (0 : Nat)) [] [⟨0, (1 : Nat), (22 : Nat), p, false, true⟩])
noncomputable abbrev slices_swapRangeCmpFunc_B_l0_X (vals : List AV) (H : List Box) := XR Tryd.prog slices_swapRangeCmpFunc_B_E0 [0, 1, 2, 3, 10] [] [] (loopAt Tryd.f96 0) vals H
theorem slices_swapRangeCmpFunc_B_l0_r (data : Nat) (a : Int) (b : Int) (n : Int) (s : Int × List AV) : Enc (encR (slices_swapRangeCmpFunc_B_l0_L data a b n) (slices_swapRangeCmpFunc_B_l0_out data a b n)) (slices_swapRangeCmpFunc_B_l0_step data a b n s) (slices_swapRangeCmpFunc_B_l0_X (slices_swapRangeCmpFunc_B_l0_L data a b n s).1 (slices_swapRangeCmpFunc_B_l0_L data a b n s).2) := by
  obtain ⟨i, data_xs⟩ := s
  have h : slices_swapRangeCmpFunc_B_l0_X (slices_swapRangeCmpFunc_B_l0_L data a b n (i, data_xs)).1 (slices_swapRangeCmpFunc_B_l0_L data a b n (i, data_xs)).2 = slices_swapRangeCmpFunc_B_l0_t data a b n i data_xs none (fun s => some (encR (slices_swapRangeCmpFunc_B_l0_L data a b n) (slices_swapRangeCmpFunc_B_l0_out data a b n) (.inl s))) (fun p => some (encR (slices_swapRangeCmpFunc_B_l0_L data a b n) (slices_swapRangeCmpFunc_B_l0_out data a b n) (.inr p))) := by kernel_rfl
  rw [h]; unfold slices_swapRangeCmpFunc_B_l0_step slices_swapRangeCmpFunc_B_l0_t; repeat' (first | exact Enc.none | exact Enc.some rfl | refine Enc.br ?_ ?_)
noncomputable def slices_swapRangeCmpFunc_B_l0_lp : Lp := lpOf [0, 1, 2, 3, 10] [] [] (pCons (pOsl (0 : Nat) (0 : Nat) (0 : Nat)) (pCons (pInt IntKind.i64) (pCons (pInt IntKind.i64) (pCons (pInt IntKind.i64) (pCons (pInt IntKind.i64) pNil))))) (pCons (pBox (0 : Nat) (1 : Nat) (22 : Nat) false true pAny) pNil) fun (data, (a, (b, (n, (i, _))))) (data_xs, _) => ((Iter (slices_swapRangeCmpFunc_B_l0_step data a b n) (i, data_xs)).isSome, slices_swapRangeCmpFunc_B_l0_out data a b n ((Iter (slices_swapRangeCmpFunc_B_l0_step data a b n) (i, data_xs)).getD []))
theorem slices_swapRangeCmpFunc_B_l0_lok : LoopOk Tryd.prog (ITryd.at slices_swapRangeCmpFunc_B_E0.pin) slices_swapRangeCmpFunc_B_E0.nt (loopAt Tryd.f96 0) slices_swapRangeCmpFunc_B_l0_lp := lok_of fun vv bb rr hh => by
  obtain ⟨data, ⟨a, ⟨b, ⟨n, ⟨i, _⟩⟩⟩⟩⟩ := vv
  obtain ⟨data_xs, _⟩ := bb
  obtain ⟨hh1, rfl⟩ := Prod.mk.inj hh
  exact loop_of_XR mxTryd (inv0Ok Tryd.prog _) rfl slices_swapRangeCmpFunc_B_E0_ok slices_swapRangeCmpFunc_B_E0_lk96_0 (slices_swapRangeCmpFunc_B_l0_L data a b n) (slices_swapRangeCmpFunc_B_l0_out data a b n) (fun p => by simp only [slices_swapRangeCmpFunc_B_l0_out, LR.eval]; first | (simp; done) | (repeat' split <;> simp)) (slices_swapRangeCmpFunc_B_l0_r data a b n) (s := (i, data_xs)) (getD_of_isSome hh1)


/-- The environment of slices.swapRangeCmpFunc   bitemporal/api.Value : its loops so far. -/

noncomputable def slices_swapRangeCmpFunc_B_E1 : Env := EL6_1.fn 38 1 (lsOf [22]) (lpsOf [(1, slices_swapRangeCmpFunc_B_l0_lp)])

theorem slices_swapRangeCmpFunc_B_E1_ok : OrcOk Tryd.prog (ITryd.at 1) slices_swapRangeCmpFunc_B_E1 := EL6_1_ok.fn

theorem slices_swapRangeCmpFunc_B_E1_lk96 : LoOk Tryd.prog (ITryd.at slices_swapRangeCmpFunc_B_E1.pin) slices_swapRangeCmpFunc_B_E1 (Tryd.f96.body.getD .skip) := loOk_all (ls := [loopAt Tryd.f96 0]) (by kernel_rfl) (fun l hl lp hs => by
  simp only [List.mem_cons, List.not_mem_nil, or_false] at hl
  rcases hl with rfl
  · rw [show slices_swapRangeCmpFunc_B_E1.lp (codeId (loopAt Tryd.f96 0)) = some slices_swapRangeCmpFunc_B_l0_lp by kernel_rfl] at hs
    simp only [Option.some.injEq] at hs; subst hs; exact slices_swapRangeCmpFunc_B_l0_lok)

/- 3 nodes -/
noncomputable def slices_swapRangeCmpFunc_B_t {T : Type} (n : Nat) (a : Int) (b : Int) (k : Int) (o : List AV) (xs : List AV) (δ : T) (κ : List AV → T) : T := br ((Iter (slices_swapRangeCmpFunc_B_l0_step n a b k) ((0 : Int), xs)).isSome) (κ ((Iter (slices_swapRangeCmpFunc_B_l0_step n a b k) ((0 : Int), xs)).getD [])) (δ)
noncomputable def slices_swapRangeCmpFunc_B (n : Nat) (a : Int) (b : Int) (k : Int) (o : List AV) (xs : List AV) : Option (List AV) := slices_swapRangeCmpFunc_B_t n a b k o xs none some
theorem slices_swapRangeCmpFunc_B_x (n : Nat) (a : Int) (b : Int) (k : Int) (o : List AV) (xs : List AV) : Enc (fun (p : List AV) => (((AV.tuple [], ([⟨0, (1 : Nat), (22 : Nat), p, false, true⟩] : List Box))) : (AV × List Box))) (slices_swapRangeCmpFunc_B n a b k o xs) (XFM Tryd.prog slices_swapRangeCmpFunc_B_E1 Tryd.f96 (Tryd.f96.body.getD .skip) [AV.osl (0 : Nat) (0 : Nat) (0 : Nat) n, AV.int IntKind.i64 a, AV.int IntKind.i64 b, AV.int IntKind.i64 k, AV.func (38 : FuncId) [AV.eptr (1 : Nat) [AV.list (2 : Nat) o] (0 : Nat) (0 : Nat)]] [{ ver := (0 : Nat), sz := (1 : Nat), ty := (22 : TypeId), xs := xs, frz := false, pm := true }]) := by
  have h : XFM Tryd.prog slices_swapRangeCmpFunc_B_E1 Tryd.f96 (Tryd.f96.body.getD .skip) [AV.osl (0 : Nat) (0 : Nat) (0 : Nat) n, AV.int IntKind.i64 a, AV.int IntKind.i64 b, AV.int IntKind.i64 k, AV.func (38 : FuncId) [AV.eptr (1 : Nat) [AV.list (2 : Nat) o] (0 : Nat) (0 : Nat)]] [{ ver := (0 : Nat), sz := (1 : Nat), ty := (22 : TypeId), xs := xs, frz := false, pm := true }] = slices_swapRangeCmpFunc_B_t n a b k o xs none (fun (p : List AV) => some (((AV.tuple [], ([⟨0, (1 : Nat), (22 : Nat), p, false, true⟩] : List Box))) : (AV × List Box))) := by kernel_rfl
  rw [h]; unfold slices_swapRangeCmpFunc_B slices_swapRangeCmpFunc_B_t; repeat' (first | exact Enc.none | exact Enc.some rfl | refine Enc.br ?_ ?_)
noncomputable def slices_swapRangeCmpFunc_B_o : List AV → List Box → Option (Bool × AV × List Box) := omOf (sCons (sEq (pOsl (0 : Nat) (0 : Nat) (0 : Nat))) (sCons (sEq (pInt IntKind.i64)) (sCons (sEq (pInt IntKind.i64)) (sCons (sEq (pInt IntKind.i64)) (sCons (sEq (pFunc (38 : FuncId) (pCons (pEptr (1 : Nat) (0 : Nat) (0 : Nat) (pCons (pList (2 : Nat) pAny) pNil)) pNil))) sNil))))) (pCons (pBox (0 : Nat) (1 : Nat) (22 : TypeId) false true pAny) pNil) fun (n, (a, (b, (k, (((o, _), _), _))))) (xs, _) => ((slices_swapRangeCmpFunc_B n a b k o xs).isSome, ((AV.tuple [], ([⟨0, (1 : Nat), (22 : Nat), ((slices_swapRangeCmpFunc_B n a b k o xs).getD []), false, true⟩] : List Box))))
theorem slices_swapRangeCmpFunc_B_c : OmOk Tryd.prog ITryd 96 (slices_swapRangeCmpFunc_B_o) := omOk_of fun vv bb rr hh' hh => by
  obtain ⟨n, ⟨a, ⟨b, ⟨k, ⟨⟨⟨o, _⟩, _⟩, _⟩⟩⟩⟩⟩ := vv
  obtain ⟨xs, _⟩ := bb
  obtain ⟨hh1, hh2⟩ := Prod.mk.inj hh
  refine goodM_pin (p := slices_swapRangeCmpFunc_B_E1.pin) (goodM_XFM mxTryd (inv0Ok Tryd.prog _) rfl slices_swapRangeCmpFunc_B_E1_ok rfl Tryd.func96 rfl (by kernel_rfl) slices_swapRangeCmpFunc_B_E1_lk96 ((slices_swapRangeCmpFunc_B_x _ _ _ _ _ _ _ (getD_of_isSome (d := []) hh1)).trans ?_))
  exact congrArg some hh2


noncomputable def EL6_2 : Env := EL6_1.withM 96 slices_swapRangeCmpFunc_B_o

theorem EL6_2_ok : OrcOk Tryd.prog ITryd EL6_2 := EL6_1_ok.withM slices_swapRangeCmpFunc_B_c

/-- The environment of slices.rotateCmpFunc   bitemporal/api.Value : its loops so far. -/

noncomputable def slices_rotateCmpFunc_B_E0 : Env := EL6_2.fn 58 1 (lsOf [22]) (lpsOf [])

theorem slices_rotateCmpFunc_B_E0_ok : OrcOk Tryd.prog (ITryd.at 1) slices_rotateCmpFunc_B_E0 := EL6_2_ok.fn

theorem slices_rotateCmpFunc_B_E0_lk87_0 : LoOk Tryd.prog (ITryd.at slices_rotateCmpFunc_B_E0.pin) slices_rotateCmpFunc_B_E0 (loopAt Tryd.f87 0) := loOk_nil (by kernel_rfl)

/- 9 nodes -/
noncomputable def slices_rotateCmpFunc_B_l0_t {T : Type} (data : Nat) (m : Int) (cmp : List AV) (i : Int) (j : Int) (data_xs : List AV) (δ : T) (κl : (Int × Int × List AV) → T) (κr : (Int × List AV) → T) : T := br (i != j) (br (decide (i > j)) (br ((slices_swapRangeCmpFunc_B data (IntKind.i64.wrap (m - i)) m j cmp data_xs).isSome) (κl (IntKind.i64.wrap (i - j), j, (slices_swapRangeCmpFunc_B data (IntKind.i64.wrap (m - i)) m j cmp data_xs).getD [])) (δ)) (br ((slices_swapRangeCmpFunc_B data (IntKind.i64.wrap (m - i)) (IntKind.i64.wrap (IntKind.i64.wrap (m + j) - i)) i cmp data_xs).isSome) (κl (i, IntKind.i64.wrap (j - i), (slices_swapRangeCmpFunc_B data (IntKind.i64.wrap (m - i)) (IntKind.i64.wrap (IntKind.i64.wrap (m + j) - i)) i cmp data_xs).getD [])) (δ))) (κr (i, data_xs))
noncomputable def slices_rotateCmpFunc_B_l0_step (data : Nat) (m : Int) (cmp : List AV) : (Int × Int × List AV) → Option ((Int × Int × List AV) ⊕ (Int × List AV)) := fun (i, j, data_xs) => slices_rotateCmpFunc_B_l0_t data m cmp i j data_xs none (fun s => some (.inl s)) (fun p => some (.inr p))
noncomputable def slices_rotateCmpFunc_B_l0_L (data : Nat) (m : Int) (cmp : List AV) : (Int × Int × List AV) → List AV × List Box := fun (i, j, data_xs) => ([AV.osl 0 0 0 data, AV.int IntKind.i64 m, AV.func (38 : Nat) [AV.eptr (1 : Nat) [AV.list (2 : Nat) cmp] 0 0], AV.int IntKind.i64 i, AV.int IntKind.i64 j], [⟨0, (1 : Nat), (22 : Nat), data_xs, false, true⟩])
noncomputable def slices_rotateCmpFunc_B_l0_out (data : Nat) (m : Int) (cmp : List AV) : (Int × List AV) → LR := fun p => (.leaf (Exit.exit (0 : Nat)) [AV.osl 0 0 0 data, AV.int IntKind.i64 m, AV.func (38 : Nat) [AV.eptr (1 : Nat) [AV.list (2 : Nat) cmp] 0 0], AV.int IntKind.i64 p.1] [⟨0, (1 : Nat), (22 : Nat), p.2, false, true⟩])
noncomputable abbrev slices_rotateCmpFunc_B_l0_X (vals : List AV) (H : List Box) := XR Tryd.prog slices_rotateCmpFunc_B_E0 [0, 2, 4, 10, 11] [0, 2, 4, 10] [] (loopAt Tryd.f87 0) vals H
theorem slices_rotateCmpFunc_B_l0_r (data : Nat) (m : Int) (cmp : List AV) (s : Int × Int × List AV) : Enc (encR (slices_rotateCmpFunc_B_l0_L data m cmp) (slices_rotateCmpFunc_B_l0_out data m cmp)) (slices_rotateCmpFunc_B_l0_step data m cmp s) (slices_rotateCmpFunc_B_l0_X (slices_rotateCmpFunc_B_l0_L data m cmp s).1 (slices_rotateCmpFunc_B_l0_L data m cmp s).2) := by
  obtain ⟨i, j, data_xs⟩ := s
  have h : slices_rotateCmpFunc_B_l0_X (slices_rotateCmpFunc_B_l0_L data m cmp (i, j, data_xs)).1 (slices_rotateCmpFunc_B_l0_L data m cmp (i, j, data_xs)).2 = slices_rotateCmpFunc_B_l0_t data m cmp i j data_xs none (fun s => some (encR (slices_rotateCmpFunc_B_l0_L data m cmp) (slices_rotateCmpFunc_B_l0_out data m cmp) (.inl s))) (fun p => some (encR (slices_rotateCmpFunc_B_l0_L data m cmp) (slices_rotateCmpFunc_B_l0_out data m cmp) (.inr p))) := by kernel_rfl
  rw [h]; unfold slices_rotateCmpFunc_B_l0_step slices_rotateCmpFunc_B_l0_t; repeat' (first | exact Enc.none | exact Enc.some rfl | refine Enc.br ?_ ?_)
noncomputable def slices_rotateCmpFunc_B_l0_lp : Lp := lpOf [0, 2, 4, 10, 11] [0, 2, 4, 10] [] (pCons (pOsl (0 : Nat) (0 : Nat) (0 : Nat)) (pCons (pInt IntKind.i64) (pCons (pFunc (38 : Nat) (pCons (pEptr (1 : Nat) (0 : Nat) (0 : Nat) (pCons (pList (2 : Nat) pAny) pNil)) pNil)) (pCons (pInt IntKind.i64) (pCons (pInt IntKind.i64) pNil))))) (pCons (pBox (0 : Nat) (1 : Nat) (22 : Nat) false true pAny) pNil) fun (data, (m, (((cmp, _), _), (i, (j, _))))) (data_xs, _) => ((Iter (slices_rotateCmpFunc_B_l0_step data m cmp) (i, j, data_xs)).isSome, slices_rotateCmpFunc_B_l0_out data m cmp ((Iter (slices_rotateCmpFunc_B_l0_step data m cmp) (i, j, data_xs)).getD (0, [])))
theorem slices_rotateCmpFunc_B_l0_lok : LoopOk Tryd.prog (ITryd.at slices_rotateCmpFunc_B_E0.pin) slices_rotateCmpFunc_B_E0.nt (loopAt Tryd.f87 0) slices_rotateCmpFunc_B_l0_lp := lok_of fun vv bb rr hh => by
  obtain ⟨data, ⟨m, ⟨⟨⟨cmp, _⟩, _⟩, ⟨i, ⟨j, _⟩⟩⟩⟩⟩ := vv
  obtain ⟨data_xs, _⟩ := bb
  obtain ⟨hh1, rfl⟩ := Prod.mk.inj hh
  exact loop_of_XR mxTryd (inv0Ok Tryd.prog _) rfl slices_rotateCmpFunc_B_E0_ok slices_rotateCmpFunc_B_E0_lk87_0 (slices_rotateCmpFunc_B_l0_L data m cmp) (slices_rotateCmpFunc_B_l0_out data m cmp) (fun p => by simp only [slices_rotateCmpFunc_B_l0_out, LR.eval]; first | (simp; done) | (repeat' split <;> simp)) (slices_rotateCmpFunc_B_l0_r data m cmp) (s := (i, j, data_xs)) (getD_of_isSome hh1)


/-- The environment of slices.rotateCmpFunc   bitemporal/api.Value : its loops so far. -/

noncomputable def slices_rotateCmpFunc_B_E1 : Env := EL6_2.fn 58 1 (lsOf [22]) (lpsOf [(2, slices_rotateCmpFunc_B_l0_lp)])

theorem slices_rotateCmpFunc_B_E1_ok : OrcOk Tryd.prog (ITryd.at 1) slices_rotateCmpFunc_B_E1 := EL6_2_ok.fn

theorem slices_rotateCmpFunc_B_E1_lk87 : LoOk Tryd.prog (ITryd.at slices_rotateCmpFunc_B_E1.pin) slices_rotateCmpFunc_B_E1 (Tryd.f87.body.getD .skip) := loOk_all (ls := [loopAt Tryd.f87 0]) (by kernel_rfl) (fun l hl lp hs => by
  simp only [List.mem_cons, List.not_mem_nil, or_false] at hl
  rcases hl with rfl
  · rw [show slices_rotateCmpFunc_B_E1.lp (codeId (loopAt Tryd.f87 0)) = some slices_rotateCmpFunc_B_l0_lp by kernel_rfl] at hs
    simp only [Option.some.injEq] at hs; subst hs; exact slices_rotateCmpFunc_B_l0_lok)

/- 5 nodes -/
noncomputable def slices_rotateCmpFunc_B_v3 (n : Nat) (a : Int) (m : Int) (b : Int) (o : List AV) (xs : List AV) : Option (Int × List AV) := Iter (slices_rotateCmpFunc_B_l0_step n m o) (IntKind.i64.wrap (m - a), IntKind.i64.wrap (b - m), xs)
noncomputable def slices_rotateCmpFunc_B_v2 (n : Nat) (a : Int) (m : Int) (b : Int) (o : List AV) (xs : List AV) : Int × List AV := (slices_rotateCmpFunc_B_v3 n a m b o xs).getD ((0 : Int), [])
noncomputable def slices_rotateCmpFunc_B_v1 (n : Nat) (a : Int) (m : Int) (b : Int) (o : List AV) (xs : List AV) : Int := (slices_rotateCmpFunc_B_v2 n a m b o xs).fst
noncomputable def slices_rotateCmpFunc_B_v0 (n : Nat) (a : Int) (m : Int) (b : Int) (o : List AV) (xs : List AV) : Option (List AV) := slices_swapRangeCmpFunc_B n (IntKind.i64.wrap (m - slices_rotateCmpFunc_B_v1 n a m b o xs)) m (slices_rotateCmpFunc_B_v1 n a m b o xs) o (slices_rotateCmpFunc_B_v2 n a m b o xs).snd
noncomputable def slices_rotateCmpFunc_B_t {T : Type} (n : Nat) (a : Int) (m : Int) (b : Int) (o : List AV) (xs : List AV) (δ : T) (κ : List AV → T) : T := br ((slices_rotateCmpFunc_B_v3 n a m b o xs).isSome) (br ((slices_rotateCmpFunc_B_v0 n a m b o xs).isSome) (κ ((slices_rotateCmpFunc_B_v0 n a m b o xs).getD [])) (δ)) (δ)
noncomputable def slices_rotateCmpFunc_B (n : Nat) (a : Int) (m : Int) (b : Int) (o : List AV) (xs : List AV) : Option (List AV) := slices_rotateCmpFunc_B_t n a m b o xs none some
theorem slices_rotateCmpFunc_B_x (n : Nat) (a : Int) (m : Int) (b : Int) (o : List AV) (xs : List AV) : Enc (fun (p : List AV) => (((AV.tuple [], ([⟨0, (1 : Nat), (22 : Nat), p, false, true⟩] : List Box))) : (AV × List Box))) (slices_rotateCmpFunc_B n a m b o xs) (XFM Tryd.prog slices_rotateCmpFunc_B_E1 Tryd.f87 (Tryd.f87.body.getD .skip) [AV.osl (0 : Nat) (0 : Nat) (0 : Nat) n, AV.int IntKind.i64 a, AV.int IntKind.i64 m, AV.int IntKind.i64 b, AV.func (38 : FuncId) [AV.eptr (1 : Nat) [AV.list (2 : Nat) o] (0 : Nat) (0 : Nat)]] [{ ver := (0 : Nat), sz := (1 : Nat), ty := (22 : TypeId), xs := xs, frz := false, pm := true }]) := by
  have h : XFM Tryd.prog slices_rotateCmpFunc_B_E1 Tryd.f87 (Tryd.f87.body.getD .skip) [AV.osl (0 : Nat) (0 : Nat) (0 : Nat) n, AV.int IntKind.i64 a, AV.int IntKind.i64 m, AV.int IntKind.i64 b, AV.func (38 : FuncId) [AV.eptr (1 : Nat) [AV.list (2 : Nat) o] (0 : Nat) (0 : Nat)]] [{ ver := (0 : Nat), sz := (1 : Nat), ty := (22 : TypeId), xs := xs, frz := false, pm := true }] = slices_rotateCmpFunc_B_t n a m b o xs none (fun (p : List AV) => some (((AV.tuple [], ([⟨0, (1 : Nat), (22 : Nat), p, false, true⟩] : List Box))) : (AV × List Box))) := by kernel_rfl
  rw [h]; unfold slices_rotateCmpFunc_B slices_rotateCmpFunc_B_t; repeat' (first | exact Enc.none | exact Enc.some rfl | refine Enc.br ?_ ?_)
noncomputable def slices_rotateCmpFunc_B_o : List AV → List Box → Option (Bool × AV × List Box) := omOf (sCons (sEq (pOsl (0 : Nat) (0 : Nat) (0 : Nat))) (sCons (sEq (pInt IntKind.i64)) (sCons (sEq (pInt IntKind.i64)) (sCons (sEq (pInt IntKind.i64)) (sCons (sEq (pFunc (38 : FuncId) (pCons (pEptr (1 : Nat) (0 : Nat) (0 : Nat) (pCons (pList (2 : Nat) pAny) pNil)) pNil))) sNil))))) (pCons (pBox (0 : Nat) (1 : Nat) (22 : TypeId) false true pAny) pNil) fun (n, (a, (m, (b, (((o, _), _), _))))) (xs, _) => ((slices_rotateCmpFunc_B n a m b o xs).isSome, ((AV.tuple [], ([⟨0, (1 : Nat), (22 : Nat), ((slices_rotateCmpFunc_B n a m b o xs).getD []), false, true⟩] : List Box))))
theorem slices_rotateCmpFunc_B_c : OmOk Tryd.prog ITryd 87 (slices_rotateCmpFunc_B_o) := omOk_of fun vv bb rr hh' hh => by
  obtain ⟨n, ⟨a, ⟨m, ⟨b, ⟨⟨⟨o, _⟩, _⟩, _⟩⟩⟩⟩⟩ := vv
  obtain ⟨xs, _⟩ := bb
  obtain ⟨hh1, hh2⟩ := Prod.mk.inj hh
  refine goodM_pin (p := slices_rotateCmpFunc_B_E1.pin) (goodM_XFM mxTryd (inv0Ok Tryd.prog _) rfl slices_rotateCmpFunc_B_E1_ok rfl Tryd.func87 rfl (by kernel_rfl) slices_rotateCmpFunc_B_E1_lk87 ((slices_rotateCmpFunc_B_x _ _ _ _ _ _ _ (getD_of_isSome (d := []) hh1)).trans ?_))
  exact congrArg some hh2


noncomputable def EL6_3 : Env := EL6_2.withM 87 slices_rotateCmpFunc_B_o

theorem EL6_3_ok : OrcOk Tryd.prog ITryd EL6_3 := EL6_2_ok.withM slices_rotateCmpFunc_B_c

/-- The environment of slices.symMergeCmpFunc   bitemporal/api.Value : its loops so far. -/

noncomputable def slices_symMergeCmpFunc_B_E0 : Env := EL6_3.fn 220 1 (lsOf [22]) (lpsOf [])

theorem slices_symMergeCmpFunc_B_E0_ok : OrcOk Tryd.prog (ITryd.at 1) slices_symMergeCmpFunc_B_E0 := EL6_3_ok.fn

theorem slices_symMergeCmpFunc_B_E0_lk80_0 : LoOk Tryd.prog (ITryd.at slices_symMergeCmpFunc_B_E0.pin) slices_symMergeCmpFunc_B_E0 (loopAt Tryd.f80 0) := loOk_nil (by kernel_rfl)

/- 15 nodes -/
noncomputable def slices_symMergeCmpFunc_B_l0_v0 (i : Int) (j : Int) : Int := IntKind.i64.wrap ((IntKind.u64.wrap (IntKind.i64.wrap (i + j))).fdiv (2 : Int))
noncomputable def slices_symMergeCmpFunc_B_l0_t {T : Type} (data : Nat) (a : Int) (cmp : List AV) (i : Int) (j : Int) (data_xs : List AV) (δ : T) (κl : (Int × Int × List AV) → T) (κr : (Int × List AV) → T) : T := br (decide (i < j)) (br (decide ((0 : Int) ≤ slices_symMergeCmpFunc_B_l0_v0 i j) && decide (slices_symMergeCmpFunc_B_l0_v0 i j < (↑data : Int))) (br (decide ((0 : Nat) + (slices_symMergeCmpFunc_B_l0_v0 i j).toNat < data_xs.length) && hasSh1 (Sh.list (3 : Nat)) ((data_xs.getD ((0 : Nat) + (slices_symMergeCmpFunc_B_l0_v0 i j).toNat) AV.top).cells.getD (0 : Nat) AV.top)) (br (decide ((0 : Int) ≤ a) && decide (a < (↑data : Int))) (br (decide ((0 : Nat) + a.toNat < data_xs.length) && hasSh1 (Sh.list (3 : Nat)) ((data_xs.getD ((0 : Nat) + a.toNat) AV.top).cells.getD (0 : Nat) AV.top)) (br (tuple_Order1_pre ((data_xs.getD ((0 : Nat) + (slices_symMergeCmpFunc_B_l0_v0 i j).toNat) AV.top).cells.getD (0 : Nat) AV.top).toList ((data_xs.getD ((0 : Nat) + a.toNat) AV.top).cells.getD (0 : Nat) AV.top).toList cmp) (br (decide (tuple_Order1 ((data_xs.getD ((0 : Nat) + (slices_symMergeCmpFunc_B_l0_v0 i j).toNat) AV.top).cells.getD (0 : Nat) AV.top).toList ((data_xs.getD ((0 : Nat) + a.toNat) AV.top).cells.getD (0 : Nat) AV.top).toList cmp < (0 : Int))) (κl (IntKind.i64.wrap (slices_symMergeCmpFunc_B_l0_v0 i j + (1 : Int)), j, data_xs)) (κl (i, slices_symMergeCmpFunc_B_l0_v0 i j, data_xs))) (δ)) (δ)) (δ)) (δ)) (δ)) (κr (i, data_xs))
noncomputable def slices_symMergeCmpFunc_B_l0_step (data : Nat) (a : Int) (cmp : List AV) : (Int × Int × List AV) → Option ((Int × Int × List AV) ⊕ (Int × List AV)) := fun (i, j, data_xs) => slices_symMergeCmpFunc_B_l0_t data a cmp i j data_xs none (fun s => some (.inl s)) (fun p => some (.inr p))
noncomputable def slices_symMergeCmpFunc_B_l0_L (data : Nat) (a : Int) (cmp : List AV) : (Int × Int × List AV) → List AV × List Box := fun (i, j, data_xs) => ([AV.osl 0 0 0 data, AV.int IntKind.i64 a, AV.func (38 : Nat) [AV.eptr (1 : Nat) [AV.list (2 : Nat) cmp] 0 0], AV.int IntKind.i64 i, AV.int IntKind.i64 j], [⟨0, (1 : Nat), (22 : Nat), data_xs, false, true⟩])
noncomputable def slices_symMergeCmpFunc_B_l0_out (data : Nat) (a : Int) (cmp : List AV) : (Int × List AV) → LR := fun p => (.leaf (Exit.exit (0 : Nat)) [AV.osl 0 0 0 data, AV.int IntKind.i64 a, AV.int IntKind.i64 p.1] [⟨0, (1 : Nat), (22 : Nat), p.2, false, true⟩])
noncomputable abbrev slices_symMergeCmpFunc_B_l0_X (vals : List AV) (H : List Box) := XR Tryd.prog slices_symMergeCmpFunc_B_E0 [0, 1, 4, 10, 11] [0, 1, 10] [] (loopAt Tryd.f80 0) vals H
theorem slices_symMergeCmpFunc_B_l0_r (data : Nat) (a : Int) (cmp : List AV) (s : Int × Int × List AV) : Enc (encR (slices_symMergeCmpFunc_B_l0_L data a cmp) (slices_symMergeCmpFunc_B_l0_out data a cmp)) (slices_symMergeCmpFunc_B_l0_step data a cmp s) (slices_symMergeCmpFunc_B_l0_X (slices_symMergeCmpFunc_B_l0_L data a cmp s).1 (slices_symMergeCmpFunc_B_l0_L data a cmp s).2) := by
  obtain ⟨i, j, data_xs⟩ := s
  have h : slices_symMergeCmpFunc_B_l0_X (slices_symMergeCmpFunc_B_l0_L data a cmp (i, j, data_xs)).1 (slices_symMergeCmpFunc_B_l0_L data a cmp (i, j, data_xs)).2 = slices_symMergeCmpFunc_B_l0_t data a cmp i j data_xs none (fun s => some (encR (slices_symMergeCmpFunc_B_l0_L data a cmp) (slices_symMergeCmpFunc_B_l0_out data a cmp) (.inl s))) (fun p => some (encR (slices_symMergeCmpFunc_B_l0_L data a cmp) (slices_symMergeCmpFunc_B_l0_out data a cmp) (.inr p))) := by kernel_rfl
  rw [h]; unfold slices_symMergeCmpFunc_B_l0_step slices_symMergeCmpFunc_B_l0_t; repeat' (first | exact Enc.none | exact Enc.some rfl | refine Enc.br ?_ ?_)
noncomputable def slices_symMergeCmpFunc_B_l0_lp : Lp := lpOf [0, 1, 4, 10, 11] [0, 1, 10] [] (pCons (pOsl (0 : Nat) (0 : Nat) (0 : Nat)) (pCons (pInt IntKind.i64) (pCons (pFunc (38 : Nat) (pCons (pEptr (1 : Nat) (0 : Nat) (0 : Nat) (pCons (pList (2 : Nat) pAny) pNil)) pNil)) (pCons (pInt IntKind.i64) (pCons (pInt IntKind.i64) pNil))))) (pCons (pBox (0 : Nat) (1 : Nat) (22 : Nat) false true pAny) pNil) fun (data, (a, (((cmp, _), _), (i, (j, _))))) (data_xs, _) => ((Iter (slices_symMergeCmpFunc_B_l0_step data a cmp) (i, j, data_xs)).isSome, slices_symMergeCmpFunc_B_l0_out data a cmp ((Iter (slices_symMergeCmpFunc_B_l0_step data a cmp) (i, j, data_xs)).getD (0, [])))
theorem slices_symMergeCmpFunc_B_l0_lok : LoopOk Tryd.prog (ITryd.at slices_symMergeCmpFunc_B_E0.pin) slices_symMergeCmpFunc_B_E0.nt (loopAt Tryd.f80 0) slices_symMergeCmpFunc_B_l0_lp := lok_of fun vv bb rr hh => by
  obtain ⟨data, ⟨a, ⟨⟨⟨cmp, _⟩, _⟩, ⟨i, ⟨j, _⟩⟩⟩⟩⟩ := vv
  obtain ⟨data_xs, _⟩ := bb
  obtain ⟨hh1, rfl⟩ := Prod.mk.inj hh
  exact loop_of_XR mxTryd (inv0Ok Tryd.prog _) rfl slices_symMergeCmpFunc_B_E0_ok slices_symMergeCmpFunc_B_E0_lk80_0 (slices_symMergeCmpFunc_B_l0_L data a cmp) (slices_symMergeCmpFunc_B_l0_out data a cmp) (fun p => by simp only [slices_symMergeCmpFunc_B_l0_out, LR.eval]; first | (simp; done) | (repeat' split <;> simp)) (slices_symMergeCmpFunc_B_l0_r data a cmp) (s := (i, j, data_xs)) (getD_of_isSome hh1)


/-- The environment of slices.symMergeCmpFunc   bitemporal/api.Value : its loops so far. -/

noncomputable def slices_symMergeCmpFunc_B_E1 : Env := EL6_3.fn 220 1 (lsOf [22]) (lpsOf [(3, slices_symMergeCmpFunc_B_l0_lp)])

theorem slices_symMergeCmpFunc_B_E1_ok : OrcOk Tryd.prog (ITryd.at 1) slices_symMergeCmpFunc_B_E1 := EL6_3_ok.fn

theorem slices_symMergeCmpFunc_B_E1_lk80_1 : LoOk Tryd.prog (ITryd.at slices_symMergeCmpFunc_B_E1.pin) slices_symMergeCmpFunc_B_E1 (loopAt Tryd.f80 1) := loOk_nil (by kernel_rfl)

/- 19 nodes -/
noncomputable def slices_symMergeCmpFunc_B_l1_v0 (data : Nat) (k : Int) : Bool := decide ((0 : Int) ≤ IntKind.i64.wrap (k + (1 : Int))) && decide (IntKind.i64.wrap (k + (1 : Int)) < (↑data : Int))
noncomputable def slices_symMergeCmpFunc_B_l1_v1 (k : Int) : Nat := (0 : Nat) + (IntKind.i64.wrap (k + (1 : Int))).toNat
noncomputable def slices_symMergeCmpFunc_B_l1_v2 (k : Int) (data_xs : List AV) : Bool := decide ((0 : Nat) + k.toNat < data_xs.length)
noncomputable def slices_symMergeCmpFunc_B_l1_t {T : Type} (data : Nat) (i : Int) (k : Int) (data_xs : List AV) (δ : T) (κl : (Int × List AV) → T) (κr : (List AV) → T) : T := br (decide (k < IntKind.i64.wrap (i - (1 : Int)))) (br (slices_symMergeCmpFunc_B_l1_v0 data k) (br (decide (slices_symMergeCmpFunc_B_l1_v1 k < data_xs.length) && hasSh1 (Sh.list (3 : Nat)) ((data_xs.getD (slices_symMergeCmpFunc_B_l1_v1 k) AV.top).cells.getD (0 : Nat) AV.top)) (br (decide ((0 : Int) ≤ k) && decide (k < (↑data : Int))) (br (slices_symMergeCmpFunc_B_l1_v2 k data_xs && hasSh1 (Sh.list (3 : Nat)) ((data_xs.getD ((0 : Nat) + k.toNat) AV.top).cells.getD (0 : Nat) AV.top)) (br (decide ((0 : Int) ≤ k) && decide (k < (↑data : Int))) (br (slices_symMergeCmpFunc_B_l1_v2 k data_xs) (br (slices_symMergeCmpFunc_B_l1_v0 data k) (br (decide (slices_symMergeCmpFunc_B_l1_v1 k < (data_xs.set ((0 : Nat) + k.toNat) (AV.list (3 : Nat) ((data_xs.getD (slices_symMergeCmpFunc_B_l1_v1 k) AV.top).cells.getD (0 : Nat) AV.top).toList)).length)) (κl (IntKind.i64.wrap (k + (1 : Int)), (data_xs.set ((0 : Nat) + k.toNat) (AV.list (3 : Nat) ((data_xs.getD (slices_symMergeCmpFunc_B_l1_v1 k) AV.top).cells.getD (0 : Nat) AV.top).toList)).set (slices_symMergeCmpFunc_B_l1_v1 k) (AV.list (3 : Nat) ((data_xs.getD ((0 : Nat) + k.toNat) AV.top).cells.getD (0 : Nat) AV.top).toList))) (δ)) (δ)) (δ)) (δ)) (δ)) (δ)) (δ)) (δ)) (κr (data_xs))
noncomputable def slices_symMergeCmpFunc_B_l1_step (data : Nat) (i : Int) : (Int × List AV) → Option ((Int × List AV) ⊕ (List AV)) := fun (k, data_xs) => slices_symMergeCmpFunc_B_l1_t data i k data_xs none (fun s => some (.inl s)) (fun p => some (.inr p))
noncomputable def slices_symMergeCmpFunc_B_l1_L (data : Nat) (i : Int) : (Int × List AV) → List AV × List Box := fun (k, data_xs) => ([AV.osl 0 0 0 data, AV.int IntKind.i64 i, AV.int IntKind.i64 k], [⟨0, (1 : Nat), (22 : Nat), data_xs, false, true⟩])
noncomputable def slices_symMergeCmpFunc_B_l1_out (data : Nat) (i : Int) : (List AV) → LR := fun p => (.leaf (Exit.exit (2 : Nat)) [] [⟨0, (1 : Nat), (22 : Nat), p, false, true⟩])
noncomputable abbrev slices_symMergeCmpFunc_B_l1_X (vals : List AV) (H : List Box) := XR Tryd.prog slices_symMergeCmpFunc_B_E1 [0, 10, 13] [] [] (loopAt Tryd.f80 1) vals H
theorem slices_symMergeCmpFunc_B_l1_r (data : Nat) (i : Int) (s : Int × List AV) : Enc (encR (slices_symMergeCmpFunc_B_l1_L data i) (slices_symMergeCmpFunc_B_l1_out data i)) (slices_symMergeCmpFunc_B_l1_step data i s) (slices_symMergeCmpFunc_B_l1_X (slices_symMergeCmpFunc_B_l1_L data i s).1 (slices_symMergeCmpFunc_B_l1_L data i s).2) := by
  obtain ⟨k, data_xs⟩ := s
  have h : slices_symMergeCmpFunc_B_l1_X (slices_symMergeCmpFunc_B_l1_L data i (k, data_xs)).1 (slices_symMergeCmpFunc_B_l1_L data i (k, data_xs)).2 = slices_symMergeCmpFunc_B_l1_t data i k data_xs none (fun s => some (encR (slices_symMergeCmpFunc_B_l1_L data i) (slices_symMergeCmpFunc_B_l1_out data i) (.inl s))) (fun p => some (encR (slices_symMergeCmpFunc_B_l1_L data i) (slices_symMergeCmpFunc_B_l1_out data i) (.inr p))) := by kernel_rfl
  rw [h]; unfold slices_symMergeCmpFunc_B_l1_step slices_symMergeCmpFunc_B_l1_t; repeat' (first | exact Enc.none | exact Enc.some rfl | refine Enc.br ?_ ?_)
noncomputable def slices_symMergeCmpFunc_B_l1_lp : Lp := lpOf [0, 10, 13] [] [] (pCons (pOsl (0 : Nat) (0 : Nat) (0 : Nat)) (pCons (pInt IntKind.i64) (pCons (pInt IntKind.i64) pNil))) (pCons (pBox (0 : Nat) (1 : Nat) (22 : Nat) false true pAny) pNil) fun (data, (i, (k, _))) (data_xs, _) => ((Iter (slices_symMergeCmpFunc_B_l1_step data i) (k, data_xs)).isSome, slices_symMergeCmpFunc_B_l1_out data i ((Iter (slices_symMergeCmpFunc_B_l1_step data i) (k, data_xs)).getD []))
theorem slices_symMergeCmpFunc_B_l1_lok : LoopOk Tryd.prog (ITryd.at slices_symMergeCmpFunc_B_E1.pin) slices_symMergeCmpFunc_B_E1.nt (loopAt Tryd.f80 1) slices_symMergeCmpFunc_B_l1_lp := lok_of fun vv bb rr hh => by
  obtain ⟨data, ⟨i, ⟨k, _⟩⟩⟩ := vv
  obtain ⟨data_xs, _⟩ := bb
  obtain ⟨hh1, rfl⟩ := Prod.mk.inj hh
  exact loop_of_XR mxTryd (inv0Ok Tryd.prog _) rfl slices_symMergeCmpFunc_B_E1_ok slices_symMergeCmpFunc_B_E1_lk80_1 (slices_symMergeCmpFunc_B_l1_L data i) (slices_symMergeCmpFunc_B_l1_out data i) (fun p => by simp only [slices_symMergeCmpFunc_B_l1_out, LR.eval]; first | (simp; done) | (repeat' split <;> simp)) (slices_symMergeCmpFunc_B_l1_r data i) (s := (k, data_xs)) (getD_of_isSome hh1)


/-- The environment of slices.symMergeCmpFunc   bitemporal/api.Value : its loops so far. -/

noncomputable def slices_symMergeCmpFunc_B_E2 : Env := EL6_3.fn 220 1 (lsOf [22]) (lpsOf [(3, slices_symMergeCmpFunc_B_l0_lp), (9, slices_symMergeCmpFunc_B_l1_lp)])

theorem slices_symMergeCmpFunc_B_E2_ok : OrcOk Tryd.prog (ITryd.at 1) slices_symMergeCmpFunc_B_E2 := EL6_3_ok.fn

theorem slices_symMergeCmpFunc_B_E2_lk80_2 : LoOk Tryd.prog (ITryd.at slices_symMergeCmpFunc_B_E2.pin) slices_symMergeCmpFunc_B_E2 (loopAt Tryd.f80 2) := loOk_nil (by kernel_rfl)

/- 15 nodes -/
noncomputable def slices_symMergeCmpFunc_B_l2_v0 (i : Int) (j : Int) : Int := IntKind.i64.wrap ((IntKind.u64.wrap (IntKind.i64.wrap (i + j))).fdiv (2 : Int))
noncomputable def slices_symMergeCmpFunc_B_l2_t {T : Type} (data : Nat) (m : Int) (cmp : List AV) (i : Int) (j : Int) (data_xs : List AV) (δ : T) (κl : (Int × Int × List AV) → T) (κr : (Int × List AV) → T) : T := br (decide (i < j)) (br (decide ((0 : Int) ≤ m) && decide (m < (↑data : Int))) (br (decide ((0 : Nat) + m.toNat < data_xs.length) && hasSh1 (Sh.list (3 : Nat)) ((data_xs.getD ((0 : Nat) + m.toNat) AV.top).cells.getD (0 : Nat) AV.top)) (br (decide ((0 : Int) ≤ slices_symMergeCmpFunc_B_l2_v0 i j) && decide (slices_symMergeCmpFunc_B_l2_v0 i j < (↑data : Int))) (br (decide ((0 : Nat) + (slices_symMergeCmpFunc_B_l2_v0 i j).toNat < data_xs.length) && hasSh1 (Sh.list (3 : Nat)) ((data_xs.getD ((0 : Nat) + (slices_symMergeCmpFunc_B_l2_v0 i j).toNat) AV.top).cells.getD (0 : Nat) AV.top)) (br (tuple_Order1_pre ((data_xs.getD ((0 : Nat) + m.toNat) AV.top).cells.getD (0 : Nat) AV.top).toList ((data_xs.getD ((0 : Nat) + (slices_symMergeCmpFunc_B_l2_v0 i j).toNat) AV.top).cells.getD (0 : Nat) AV.top).toList cmp) (br (!decide (tuple_Order1 ((data_xs.getD ((0 : Nat) + m.toNat) AV.top).cells.getD (0 : Nat) AV.top).toList ((data_xs.getD ((0 : Nat) + (slices_symMergeCmpFunc_B_l2_v0 i j).toNat) AV.top).cells.getD (0 : Nat) AV.top).toList cmp < (0 : Int))) (κl (IntKind.i64.wrap (slices_symMergeCmpFunc_B_l2_v0 i j + (1 : Int)), j, data_xs)) (κl (i, slices_symMergeCmpFunc_B_l2_v0 i j, data_xs))) (δ)) (δ)) (δ)) (δ)) (δ)) (κr (i, data_xs))
noncomputable def slices_symMergeCmpFunc_B_l2_step (data : Nat) (m : Int) (cmp : List AV) : (Int × Int × List AV) → Option ((Int × Int × List AV) ⊕ (Int × List AV)) := fun (i, j, data_xs) => slices_symMergeCmpFunc_B_l2_t data m cmp i j data_xs none (fun s => some (.inl s)) (fun p => some (.inr p))
noncomputable def slices_symMergeCmpFunc_B_l2_L (data : Nat) (m : Int) (cmp : List AV) : (Int × Int × List AV) → List AV × List Box := fun (i, j, data_xs) => ([AV.osl 0 0 0 data, AV.int IntKind.i64 m, AV.func (38 : Nat) [AV.eptr (1 : Nat) [AV.list (2 : Nat) cmp] 0 0], AV.int IntKind.i64 i, AV.int IntKind.i64 j], [⟨0, (1 : Nat), (22 : Nat), data_xs, false, true⟩])
noncomputable def slices_symMergeCmpFunc_B_l2_out (data : Nat) (m : Int) (cmp : List AV) : (Int × List AV) → LR := fun p => (.leaf (Exit.exit (4 : Nat)) [AV.osl 0 0 0 data, AV.int IntKind.i64 m, AV.int IntKind.i64 p.1] [⟨0, (1 : Nat), (22 : Nat), p.2, false, true⟩])
noncomputable abbrev slices_symMergeCmpFunc_B_l2_X (vals : List AV) (H : List Box) := XR Tryd.prog slices_symMergeCmpFunc_B_E2 [0, 2, 4, 14, 15] [0, 2, 14] [] (loopAt Tryd.f80 2) vals H
theorem slices_symMergeCmpFunc_B_l2_r (data : Nat) (m : Int) (cmp : List AV) (s : Int × Int × List AV) : Enc (encR (slices_symMergeCmpFunc_B_l2_L data m cmp) (slices_symMergeCmpFunc_B_l2_out data m cmp)) (slices_symMergeCmpFunc_B_l2_step data m cmp s) (slices_symMergeCmpFunc_B_l2_X (slices_symMergeCmpFunc_B_l2_L data m cmp s).1 (slices_symMergeCmpFunc_B_l2_L data m cmp s).2) := by
  obtain ⟨i, j, data_xs⟩ := s
  have h : slices_symMergeCmpFunc_B_l2_X (slices_symMergeCmpFunc_B_l2_L data m cmp (i, j, data_xs)).1 (slices_symMergeCmpFunc_B_l2_L data m cmp (i, j, data_xs)).2 = slices_symMergeCmpFunc_B_l2_t data m cmp i j data_xs none (fun s => some (encR (slices_symMergeCmpFunc_B_l2_L data m cmp) (slices_symMergeCmpFunc_B_l2_out data m cmp) (.inl s))) (fun p => some (encR (slices_symMergeCmpFunc_B_l2_L data m cmp) (slices_symMergeCmpFunc_B_l2_out data m cmp) (.inr p))) := by kernel_rfl
  rw [h]; unfold slices_symMergeCmpFunc_B_l2_step slices_symMergeCmpFunc_B_l2_t; repeat' (first | exact Enc.none | exact Enc.some rfl | refine Enc.br ?_ ?_)
noncomputable def slices_symMergeCmpFunc_B_l2_lp : Lp := lpOf [0, 2, 4, 14, 15] [0, 2, 14] [] (pCons (pOsl (0 : Nat) (0 : Nat) (0 : Nat)) (pCons (pInt IntKind.i64) (pCons (pFunc (38 : Nat) (pCons (pEptr (1 : Nat) (0 : Nat) (0 : Nat) (pCons (pList (2 : Nat) pAny) pNil)) pNil)) (pCons (pInt IntKind.i64) (pCons (pInt IntKind.i64) pNil))))) (pCons (pBox (0 : Nat) (1 : Nat) (22 : Nat) false true pAny) pNil) fun (data, (m, (((cmp, _), _), (i, (j, _))))) (data_xs, _) => ((Iter (slices_symMergeCmpFunc_B_l2_step data m cmp) (i, j, data_xs)).isSome, slices_symMergeCmpFunc_B_l2_out data m cmp ((Iter (slices_symMergeCmpFunc_B_l2_step data m cmp) (i, j, data_xs)).getD (0, [])))
theorem slices_symMergeCmpFunc_B_l2_lok : LoopOk Tryd.prog (ITryd.at slices_symMergeCmpFunc_B_E2.pin) slices_symMergeCmpFunc_B_E2.nt (loopAt Tryd.f80 2) slices_symMergeCmpFunc_B_l2_lp := lok_of fun vv bb rr hh => by
  obtain ⟨data, ⟨m, ⟨⟨⟨cmp, _⟩, _⟩, ⟨i, ⟨j, _⟩⟩⟩⟩⟩ := vv
  obtain ⟨data_xs, _⟩ := bb
  obtain ⟨hh1, rfl⟩ := Prod.mk.inj hh
  exact loop_of_XR mxTryd (inv0Ok Tryd.prog _) rfl slices_symMergeCmpFunc_B_E2_ok slices_symMergeCmpFunc_B_E2_lk80_2 (slices_symMergeCmpFunc_B_l2_L data m cmp) (slices_symMergeCmpFunc_B_l2_out data m cmp) (fun p => by simp only [slices_symMergeCmpFunc_B_l2_out, LR.eval]; first | (simp; done) | (repeat' split <;> simp)) (slices_symMergeCmpFunc_B_l2_r data m cmp) (s := (i, j, data_xs)) (getD_of_isSome hh1)


/-- The environment of slices.symMergeCmpFunc   bitemporal/api.Value : its loops so far. -/

noncomputable def slices_symMergeCmpFunc_B_E3 : Env := EL6_3.fn 220 1 (lsOf [22]) (lpsOf [(3, slices_symMergeCmpFunc_B_l0_lp), (9, slices_symMergeCmpFunc_B_l1_lp), (15, slices_symMergeCmpFunc_B_l2_lp)])

theorem slices_symMergeCmpFunc_B_E3_ok : OrcOk Tryd.prog (ITryd.at 1) slices_symMergeCmpFunc_B_E3 := EL6_3_ok.fn

theorem slices_symMergeCmpFunc_B_E3_lk80_3 : LoOk Tryd.prog (ITryd.at slices_symMergeCmpFunc_B_E3.pin) slices_symMergeCmpFunc_B_E3 (loopAt Tryd.f80 3) := loOk_nil (by kernel_rfl)

/- 19 nodes -/
noncomputable def slices_symMergeCmpFunc_B_l3_v0 (data : Nat) (k : Int) : Bool := decide ((0 : Int) ≤ IntKind.i64.wrap (k - (1 : Int))) && decide (IntKind.i64.wrap (k - (1 : Int)) < (↑data : Int))
noncomputable def slices_symMergeCmpFunc_B_l3_v1 (k : Int) : Nat := (0 : Nat) + (IntKind.i64.wrap (k - (1 : Int))).toNat
noncomputable def slices_symMergeCmpFunc_B_l3_v2 (k : Int) (data_xs : List AV) : Bool := decide ((0 : Nat) + k.toNat < data_xs.length)
noncomputable def slices_symMergeCmpFunc_B_l3_t {T : Type} (data : Nat) (i : Int) (k : Int) (data_xs : List AV) (δ : T) (κl : (Int × List AV) → T) (κr : (List AV) → T) : T := br (decide (k > i)) (br (slices_symMergeCmpFunc_B_l3_v0 data k) (br (decide (slices_symMergeCmpFunc_B_l3_v1 k < data_xs.length) && hasSh1 (Sh.list (3 : Nat)) ((data_xs.getD (slices_symMergeCmpFunc_B_l3_v1 k) AV.top).cells.getD (0 : Nat) AV.top)) (br (decide ((0 : Int) ≤ k) && decide (k < (↑data : Int))) (br (slices_symMergeCmpFunc_B_l3_v2 k data_xs && hasSh1 (Sh.list (3 : Nat)) ((data_xs.getD ((0 : Nat) + k.toNat) AV.top).cells.getD (0 : Nat) AV.top)) (br (decide ((0 : Int) ≤ k) && decide (k < (↑data : Int))) (br (slices_symMergeCmpFunc_B_l3_v2 k data_xs) (br (slices_symMergeCmpFunc_B_l3_v0 data k) (br (decide (slices_symMergeCmpFunc_B_l3_v1 k < (data_xs.set ((0 : Nat) + k.toNat) (AV.list (3 : Nat) ((data_xs.getD (slices_symMergeCmpFunc_B_l3_v1 k) AV.top).cells.getD (0 : Nat) AV.top).toList)).length)) (κl (IntKind.i64.wrap (k - (1 : Int)), (data_xs.set ((0 : Nat) + k.toNat) (AV.list (3 : Nat) ((data_xs.getD (slices_symMergeCmpFunc_B_l3_v1 k) AV.top).cells.getD (0 : Nat) AV.top).toList)).set (slices_symMergeCmpFunc_B_l3_v1 k) (AV.list (3 : Nat) ((data_xs.getD ((0 : Nat) + k.toNat) AV.top).cells.getD (0 : Nat) AV.top).toList))) (δ)) (δ)) (δ)) (δ)) (δ)) (δ)) (δ)) (δ)) (κr (data_xs))
noncomputable def slices_symMergeCmpFunc_B_l3_step (data : Nat) (i : Int) : (Int × List AV) → Option ((Int × List AV) ⊕ (List AV)) := fun (k, data_xs) => slices_symMergeCmpFunc_B_l3_t data i k data_xs none (fun s => some (.inl s)) (fun p => some (.inr p))
noncomputable def slices_symMergeCmpFunc_B_l3_L (data : Nat) (i : Int) : (Int × List AV) → List AV × List Box := fun (k, data_xs) => ([AV.osl 0 0 0 data, AV.int IntKind.i64 i, AV.int IntKind.i64 k], [⟨0, (1 : Nat), (22 : Nat), data_xs, false, true⟩])
noncomputable def slices_symMergeCmpFunc_B_l3_out (data : Nat) (i : Int) : (List AV) → LR := fun p => (.leaf (Exit.exit (6 : Nat)) [] [⟨0, (1 : Nat), (22 : Nat), p, false, true⟩])
noncomputable abbrev slices_symMergeCmpFunc_B_l3_X (vals : List AV) (H : List Box) := XR Tryd.prog slices_symMergeCmpFunc_B_E3 [0, 14, 17] [] [] (loopAt Tryd.f80 3) vals H
theorem slices_symMergeCmpFunc_B_l3_r (data : Nat) (i : Int) (s : Int × List AV) : Enc (encR (slices_symMergeCmpFunc_B_l3_L data i) (slices_symMergeCmpFunc_B_l3_out data i)) (slices_symMergeCmpFunc_B_l3_step data i s) (slices_symMergeCmpFunc_B_l3_X (slices_symMergeCmpFunc_B_l3_L data i s).1 (slices_symMergeCmpFunc_B_l3_L data i s).2) := by
  obtain ⟨k, data_xs⟩ := s
  have h : slices_symMergeCmpFunc_B_l3_X (slices_symMergeCmpFunc_B_l3_L data i (k, data_xs)).1 (slices_symMergeCmpFunc_B_l3_L data i (k, data_xs)).2 = slices_symMergeCmpFunc_B_l3_t data i k data_xs none (fun s => some (encR (slices_symMergeCmpFunc_B_l3_L data i) (slices_symMergeCmpFunc_B_l3_out data i) (.inl s))) (fun p => some (encR (slices_symMergeCmpFunc_B_l3_L data i) (slices_symMergeCmpFunc_B_l3_out data i) (.inr p))) := by kernel_rfl
  rw [h]; unfold slices_symMergeCmpFunc_B_l3_step slices_symMergeCmpFunc_B_l3_t; repeat' (first | exact Enc.none | exact Enc.some rfl | refine Enc.br ?_ ?_)
noncomputable def slices_symMergeCmpFunc_B_l3_lp : Lp := lpOf [0, 14, 17] [] [] (pCons (pOsl (0 : Nat) (0 : Nat) (0 : Nat)) (pCons (pInt IntKind.i64) (pCons (pInt IntKind.i64) pNil))) (pCons (pBox (0 : Nat) (1 : Nat) (22 : Nat) false true pAny) pNil) fun (data, (i, (k, _))) (data_xs, _) => ((Iter (slices_symMergeCmpFunc_B_l3_step data i) (k, data_xs)).isSome, slices_symMergeCmpFunc_B_l3_out data i ((Iter (slices_symMergeCmpFunc_B_l3_step data i) (k, data_xs)).getD []))
theorem slices_symMergeCmpFunc_B_l3_lok : LoopOk Tryd.prog (ITryd.at slices_symMergeCmpFunc_B_E3.pin) slices_symMergeCmpFunc_B_E3.nt (loopAt Tryd.f80 3) slices_symMergeCmpFunc_B_l3_lp := lok_of fun vv bb rr hh => by
  obtain ⟨data, ⟨i, ⟨k, _⟩⟩⟩ := vv
  obtain ⟨data_xs, _⟩ := bb
  obtain ⟨hh1, rfl⟩ := Prod.mk.inj hh
  exact loop_of_XR mxTryd (inv0Ok Tryd.prog _) rfl slices_symMergeCmpFunc_B_E3_ok slices_symMergeCmpFunc_B_E3_lk80_3 (slices_symMergeCmpFunc_B_l3_L data i) (slices_symMergeCmpFunc_B_l3_out data i) (fun p => by simp only [slices_symMergeCmpFunc_B_l3_out, LR.eval]; first | (simp; done) | (repeat' split <;> simp)) (slices_symMergeCmpFunc_B_l3_r data i) (s := (k, data_xs)) (getD_of_isSome hh1)


/-- The environment of slices.symMergeCmpFunc   bitemporal/api.Value : its loops so far. -/

noncomputable def slices_symMergeCmpFunc_B_E4 : Env := EL6_3.fn 220 1 (lsOf [22]) (lpsOf [(3, slices_symMergeCmpFunc_B_l0_lp), (9, slices_symMergeCmpFunc_B_l1_lp), (15, slices_symMergeCmpFunc_B_l2_lp), (21, slices_symMergeCmpFunc_B_l3_lp)])

theorem slices_symMergeCmpFunc_B_E4_ok : OrcOk Tryd.prog (ITryd.at 1) slices_symMergeCmpFunc_B_E4 := EL6_3_ok.fn

theorem slices_symMergeCmpFunc_B_E4_lk80_4 : LoOk Tryd.prog (ITryd.at slices_symMergeCmpFunc_B_E4.pin) slices_symMergeCmpFunc_B_E4 (loopAt Tryd.f80 4) := loOk_nil (by kernel_rfl)

/- 15 nodes -/
noncomputable def slices_symMergeCmpFunc_B_l4_v0 (start : Int) (r : Int) : Int := IntKind.i64.wrap ((IntKind.u64.wrap (IntKind.i64.wrap (start + r))).fdiv (2 : Int))
noncomputable def slices_symMergeCmpFunc_B_l4_t {T : Type} (data : Nat) (a : Int) (m : Int) (b : Int) (cmp : List AV) (mid : Int) (n : Int) (p0 : Int) (start : Int) (r : Int) (data_xs : List AV) (δ : T) (κl : (Int × Int × List AV) → T) (κr : (Int × List AV) → T) : T := br (decide (start < r)) (br (decide ((0 : Int) ≤ IntKind.i64.wrap (p0 - slices_symMergeCmpFunc_B_l4_v0 start r)) && decide (IntKind.i64.wrap (p0 - slices_symMergeCmpFunc_B_l4_v0 start r) < (↑data : Int))) (br (decide ((0 : Nat) + (IntKind.i64.wrap (p0 - slices_symMergeCmpFunc_B_l4_v0 start r)).toNat < data_xs.length) && hasSh1 (Sh.list (3 : Nat)) ((data_xs.getD ((0 : Nat) + (IntKind.i64.wrap (p0 - slices_symMergeCmpFunc_B_l4_v0 start r)).toNat) AV.top).cells.getD (0 : Nat) AV.top)) (br (decide ((0 : Int) ≤ slices_symMergeCmpFunc_B_l4_v0 start r) && decide (slices_symMergeCmpFunc_B_l4_v0 start r < (↑data : Int))) (br (decide ((0 : Nat) + (slices_symMergeCmpFunc_B_l4_v0 start r).toNat < data_xs.length) && hasSh1 (Sh.list (3 : Nat)) ((data_xs.getD ((0 : Nat) + (slices_symMergeCmpFunc_B_l4_v0 start r).toNat) AV.top).cells.getD (0 : Nat) AV.top)) (br (tuple_Order1_pre ((data_xs.getD ((0 : Nat) + (IntKind.i64.wrap (p0 - slices_symMergeCmpFunc_B_l4_v0 start r)).toNat) AV.top).cells.getD (0 : Nat) AV.top).toList ((data_xs.getD ((0 : Nat) + (slices_symMergeCmpFunc_B_l4_v0 start r).toNat) AV.top).cells.getD (0 : Nat) AV.top).toList cmp) (br (!decide (tuple_Order1 ((data_xs.getD ((0 : Nat) + (IntKind.i64.wrap (p0 - slices_symMergeCmpFunc_B_l4_v0 start r)).toNat) AV.top).cells.getD (0 : Nat) AV.top).toList ((data_xs.getD ((0 : Nat) + (slices_symMergeCmpFunc_B_l4_v0 start r).toNat) AV.top).cells.getD (0 : Nat) AV.top).toList cmp < (0 : Int))) (κl (IntKind.i64.wrap (slices_symMergeCmpFunc_B_l4_v0 start r + (1 : Int)), r, data_xs)) (κl (start, slices_symMergeCmpFunc_B_l4_v0 start r, data_xs))) (δ)) (δ)) (δ)) (δ)) (δ)) (κr (start, data_xs))
noncomputable def slices_symMergeCmpFunc_B_l4_step (data : Nat) (a : Int) (m : Int) (b : Int) (cmp : List AV) (mid : Int) (n : Int) (p0 : Int) : (Int × Int × List AV) → Option ((Int × Int × List AV) ⊕ (Int × List AV)) := fun (start, r, data_xs) => slices_symMergeCmpFunc_B_l4_t data a m b cmp mid n p0 start r data_xs none (fun s => some (.inl s)) (fun p => some (.inr p))
noncomputable def slices_symMergeCmpFunc_B_l4_L (data : Nat) (a : Int) (m : Int) (b : Int) (cmp : List AV) (mid : Int) (n : Int) (p0 : Int) : (Int × Int × List AV) → List AV × List Box := fun (start, r, data_xs) => ([AV.osl 0 0 0 data, AV.int IntKind.i64 a, AV.int IntKind.i64 m, AV.int IntKind.i64 b, AV.func (38 : Nat) [AV.eptr (1 : Nat) [AV.list (2 : Nat) cmp] 0 0], AV.int IntKind.i64 mid, AV.int IntKind.i64 n, AV.int IntKind.i64 start, AV.int IntKind.i64 r, AV.int IntKind.i64 p0], [⟨0, (1 : Nat), (22 : Nat), data_xs, false, true⟩])
noncomputable def slices_symMergeCmpFunc_B_l4_out (data : Nat) (a : Int) (m : Int) (b : Int) (cmp : List AV) (mid : Int) (n : Int) (p0 : Int) : (Int × List AV) → LR := fun p => (.leaf (Exit.exit (8 : Nat)) [AV.osl 0 0 0 data, AV.int IntKind.i64 a, AV.int IntKind.i64 m, AV.int IntKind.i64 b, AV.func (38 : Nat) [AV.eptr (1 : Nat) [AV.list (2 : Nat) cmp] 0 0], AV.int IntKind.i64 mid, AV.int IntKind.i64 n, AV.int IntKind.i64 p.1] [⟨0, (1 : Nat), (22 : Nat), p.2, false, true⟩])
noncomputable abbrev slices_symMergeCmpFunc_B_l4_X (vals : List AV) (H : List Box) := XR Tryd.prog slices_symMergeCmpFunc_B_E4 [0, 1, 2, 3, 4, 18, 19, 20, 21, 22] [0, 1, 2, 3, 4, 18, 19, 20] [] (loopAt Tryd.f80 4) vals H
theorem slices_symMergeCmpFunc_B_l4_r (data : Nat) (a : Int) (m : Int) (b : Int) (cmp : List AV) (mid : Int) (n : Int) (p0 : Int) (s : Int × Int × List AV) : Enc (encR (slices_symMergeCmpFunc_B_l4_L data a m b cmp mid n p0) (slices_symMergeCmpFunc_B_l4_out data a m b cmp mid n p0)) (slices_symMergeCmpFunc_B_l4_step data a m b cmp mid n p0 s) (slices_symMergeCmpFunc_B_l4_X (slices_symMergeCmpFunc_B_l4_L data a m b cmp mid n p0 s).1 (slices_symMergeCmpFunc_B_l4_L data a m b cmp mid n p0 s).2) := by
  obtain ⟨start, r, data_xs⟩ := s
  have h : slices_symMergeCmpFunc_B_l4_X (slices_symMergeCmpFunc_B_l4_L data a m b cmp mid n p0 (start, r, data_xs)).1 (slices_symMergeCmpFunc_B_l4_L data a m b cmp mid n p0 (start, r, data_xs)).2 = slices_symMergeCmpFunc_B_l4_t data a m b cmp mid n p0 start r data_xs none (fun s => some (encR (slices_symMergeCmpFunc_B_l4_L data a m b cmp mid n p0) (slices_symMergeCmpFunc_B_l4_out data a m b cmp mid n p0) (.inl s))) (fun p => some (encR (slices_symMergeCmpFunc_B_l4_L data a m b cmp mid n p0) (slices_symMergeCmpFunc_B_l4_out data a m b cmp mid n p0) (.inr p))) := by kernel_rfl
  rw [h]; unfold slices_symMergeCmpFunc_B_l4_step slices_symMergeCmpFunc_B_l4_t; repeat' (first | exact Enc.none | exact Enc.some rfl | refine Enc.br ?_ ?_)
noncomputable def slices_symMergeCmpFunc_B_l4_lp : Lp := lpOf [0, 1, 2, 3, 4, 18, 19, 20, 21, 22] [0, 1, 2, 3, 4, 18, 19, 20] [] (pCons (pOsl (0 : Nat) (0 : Nat) (0 : Nat)) (pCons (pInt IntKind.i64) (pCons (pInt IntKind.i64) (pCons (pInt IntKind.i64) (pCons (pFunc (38 : Nat) (pCons (pEptr (1 : Nat) (0 : Nat) (0 : Nat) (pCons (pList (2 : Nat) pAny) pNil)) pNil)) (pCons (pInt IntKind.i64) (pCons (pInt IntKind.i64) (pCons (pInt IntKind.i64) (pCons (pInt IntKind.i64) (pCons (pInt IntKind.i64) pNil)))))))))) (pCons (pBox (0 : Nat) (1 : Nat) (22 : Nat) false true pAny) pNil) fun (data, (a, (m, (b, (((cmp, _), _), (mid, (n, (start, (r, (p0, _)))))))))) (data_xs, _) => ((Iter (slices_symMergeCmpFunc_B_l4_step data a m b cmp mid n p0) (start, r, data_xs)).isSome, slices_symMergeCmpFunc_B_l4_out data a m b cmp mid n p0 ((Iter (slices_symMergeCmpFunc_B_l4_step data a m b cmp mid n p0) (start, r, data_xs)).getD (0, [])))
theorem slices_symMergeCmpFunc_B_l4_lok : LoopOk Tryd.prog (ITryd.at slices_symMergeCmpFunc_B_E4.pin) slices_symMergeCmpFunc_B_E4.nt (loopAt Tryd.f80 4) slices_symMergeCmpFunc_B_l4_lp := lok_of fun vv bb rr hh => by
  obtain ⟨data, ⟨a, ⟨m, ⟨b, ⟨⟨⟨cmp, _⟩, _⟩, ⟨mid, ⟨n, ⟨start, ⟨r, ⟨p0, _⟩⟩⟩⟩⟩⟩⟩⟩⟩⟩ := vv
  obtain ⟨data_xs, _⟩ := bb
  obtain ⟨hh1, rfl⟩ := Prod.mk.inj hh
  exact loop_of_XR mxTryd (inv0Ok Tryd.prog _) rfl slices_symMergeCmpFunc_B_E4_ok slices_symMergeCmpFunc_B_E4_lk80_4 (slices_symMergeCmpFunc_B_l4_L data a m b cmp mid n p0) (slices_symMergeCmpFunc_B_l4_out data a m b cmp mid n p0) (fun p => by simp only [slices_symMergeCmpFunc_B_l4_out, LR.eval]; first | (simp; done) | (repeat' split <;> simp)) (slices_symMergeCmpFunc_B_l4_r data a m b cmp mid n p0) (s := (start, r, data_xs)) (getD_of_isSome hh1)


/-- The environment of slices.symMergeCmpFunc   bitemporal/api.Value : its loops so far. -/

noncomputable def slices_symMergeCmpFunc_B_E5 : Env := EL6_3.fn 220 1 (lsOf [22]) (lpsOf [(3, slices_symMergeCmpFunc_B_l0_lp), (9, slices_symMergeCmpFunc_B_l1_lp), (15, slices_symMergeCmpFunc_B_l2_lp), (21, slices_symMergeCmpFunc_B_l3_lp), (33, slices_symMergeCmpFunc_B_l4_lp)])

theorem slices_symMergeCmpFunc_B_E5_ok : OrcOk Tryd.prog (ITryd.at 1) slices_symMergeCmpFunc_B_E5 := EL6_3_ok.fn

/- 0 nodes -/
noncomputable def slices_symMergeCmpFunc_B_recO (R : Nat → Int → Int → Int → List AV → List AV → Option (List AV)) : List AV → List Box → Option (Bool × AV × List Box) := omOf (sCons (sEq (pOsl (0 : Nat) (0 : Nat) (0 : Nat))) (sCons (sEq (pInt IntKind.i64)) (sCons (sEq (pInt IntKind.i64)) (sCons (sEq (pInt IntKind.i64)) (sCons (sEq (pFunc (38 : FuncId) (pCons (pEptr (1 : Nat) (0 : Nat) (0 : Nat) (pCons (pList (2 : Nat) pAny) pNil)) pNil))) sNil))))) (pCons (pBox (0 : Nat) (1 : Nat) (22 : TypeId) false true pAny) pNil) fun (n, (a, (m, (b, (((o, _), _), _))))) (xs, _) => ((R n a m b o xs).isSome, (AV.tuple [], ([⟨0, 1, 22, ((R n a m b o xs).getD []), false, true⟩] : List Box)))


noncomputable def slices_symMergeCmpFunc_B_ER (R : Nat → Int → Int → Int → List AV → List AV → Option (List AV)) : Env := (EL6_3.withM 80 (slices_symMergeCmpFunc_B_recO R)).fn 220 1 (lsOf [22]) (lpsOf [(3, slices_symMergeCmpFunc_B_l0_lp), (9, slices_symMergeCmpFunc_B_l1_lp), (15, slices_symMergeCmpFunc_B_l2_lp), (21, slices_symMergeCmpFunc_B_l3_lp), (33, slices_symMergeCmpFunc_B_l4_lp)])
def slices_symMergeCmpFunc_B_ER_hR (R : Nat → Int → Int → Int → List AV → List AV → Option (List AV)) : Prop := OmOk Tryd.prog ITryd 80 (slices_symMergeCmpFunc_B_recO R)

theorem slices_symMergeCmpFunc_B_ER_ok (R : Nat → Int → Int → Int → List AV → List AV → Option (List AV)) (hR : slices_symMergeCmpFunc_B_ER_hR R) : OrcOk Tryd.prog (ITryd.at 1) (slices_symMergeCmpFunc_B_ER R) := (EL6_3_ok.withM hR).fn

theorem slices_symMergeCmpFunc_B_ER_lk80 (R : Nat → Int → Int → Int → List AV → List AV → Option (List AV)) : LoOk Tryd.prog (ITryd.at (slices_symMergeCmpFunc_B_ER R).pin) (slices_symMergeCmpFunc_B_ER R) (Tryd.f80.body.getD .skip) := loOk_all (ls := [loopAt Tryd.f80 0, loopAt Tryd.f80 1, loopAt Tryd.f80 2, loopAt Tryd.f80 3, loopAt Tryd.f80 4]) (by kernel_rfl) (fun l hl lp hs => by
  simp only [List.mem_cons, List.not_mem_nil, or_false] at hl
  rcases hl with rfl | rfl | rfl | rfl | rfl
  · rw [show (slices_symMergeCmpFunc_B_ER R).lp (codeId (loopAt Tryd.f80 0)) = some slices_symMergeCmpFunc_B_l0_lp by kernel_rfl] at hs
    simp only [Option.some.injEq] at hs; subst hs; exact slices_symMergeCmpFunc_B_l0_lok
  · rw [show (slices_symMergeCmpFunc_B_ER R).lp (codeId (loopAt Tryd.f80 1)) = some slices_symMergeCmpFunc_B_l1_lp by kernel_rfl] at hs
    simp only [Option.some.injEq] at hs; subst hs; exact slices_symMergeCmpFunc_B_l1_lok
  · rw [show (slices_symMergeCmpFunc_B_ER R).lp (codeId (loopAt Tryd.f80 2)) = some slices_symMergeCmpFunc_B_l2_lp by kernel_rfl] at hs
    simp only [Option.some.injEq] at hs; subst hs; exact slices_symMergeCmpFunc_B_l2_lok
  · rw [show (slices_symMergeCmpFunc_B_ER R).lp (codeId (loopAt Tryd.f80 3)) = some slices_symMergeCmpFunc_B_l3_lp by kernel_rfl] at hs
    simp only [Option.some.injEq] at hs; subst hs; exact slices_symMergeCmpFunc_B_l3_lok
  · rw [show (slices_symMergeCmpFunc_B_ER R).lp (codeId (loopAt Tryd.f80 4)) = some slices_symMergeCmpFunc_B_l4_lp by kernel_rfl] at hs
    simp only [Option.some.injEq] at hs; subst hs; exact slices_symMergeCmpFunc_B_l4_lok)

/- 175 nodes -/
noncomputable def slices_symMergeCmpFunc_B_v13 (a : Int) (b : Int) : Int := IntKind.i64.wrap ((IntKind.u64.wrap (IntKind.i64.wrap (a + b))).fdiv (2 : Int))
noncomputable def slices_symMergeCmpFunc_B_v16 (n : Nat) (a : Int) (m : Int) (b : Int) (o : List AV) (xs : List AV) : Option (List AV) := Iter (slices_symMergeCmpFunc_B_l1_step n ((Iter (slices_symMergeCmpFunc_B_l0_step n a o) (m, b, xs)).getD ((0 : Int), [])).fst) (a, ((Iter (slices_symMergeCmpFunc_B_l0_step n a o) (m, b, xs)).getD ((0 : Int), [])).snd)
noncomputable def slices_symMergeCmpFunc_B_v17 (n : Nat) (a : Int) (m : Int) (o : List AV) (xs : List AV) : Option (List AV) := Iter (slices_symMergeCmpFunc_B_l3_step n ((Iter (slices_symMergeCmpFunc_B_l2_step n m o) (a, m, xs)).getD ((0 : Int), [])).fst) (m, ((Iter (slices_symMergeCmpFunc_B_l2_step n m o) (a, m, xs)).getD ((0 : Int), [])).snd)
noncomputable def slices_symMergeCmpFunc_B_v18 (n : Nat) (a : Int) (m : Int) (b : Int) (o : List AV) (xs : List AV) : Option (Int × List AV) := Iter (slices_symMergeCmpFunc_B_l4_step n a m b o (slices_symMergeCmpFunc_B_v13 a b) (IntKind.i64.wrap (slices_symMergeCmpFunc_B_v13 a b + m)) (IntKind.i64.wrap (IntKind.i64.wrap (slices_symMergeCmpFunc_B_v13 a b + m) - (1 : Int)))) (IntKind.i64.wrap (IntKind.i64.wrap (slices_symMergeCmpFunc_B_v13 a b + m) - b), slices_symMergeCmpFunc_B_v13 a b, xs)
noncomputable def slices_symMergeCmpFunc_B_v20 (n : Nat) (a : Int) (m : Int) (b : Int) (o : List AV) (xs : List AV) : Option (Int × List AV) := Iter (slices_symMergeCmpFunc_B_l4_step n a m b o (slices_symMergeCmpFunc_B_v13 a b) (IntKind.i64.wrap (slices_symMergeCmpFunc_B_v13 a b + m)) (IntKind.i64.wrap (IntKind.i64.wrap (slices_symMergeCmpFunc_B_v13 a b + m) - (1 : Int)))) (a, m, xs)
noncomputable def slices_symMergeCmpFunc_B_v15 (n : Nat) (a : Int) (m : Int) (b : Int) (o : List AV) (xs : List AV) : Int × List AV := (slices_symMergeCmpFunc_B_v18 n a m b o xs).getD ((0 : Int), [])
noncomputable def slices_symMergeCmpFunc_B_v19 (n : Nat) (a : Int) (m : Int) (b : Int) (o : List AV) (xs : List AV) : Int × List AV := (slices_symMergeCmpFunc_B_v20 n a m b o xs).getD ((0 : Int), [])
noncomputable def slices_symMergeCmpFunc_B_v6 (n : Nat) (a : Int) (m : Int) (b : Int) (o : List AV) (xs : List AV) : Int := (slices_symMergeCmpFunc_B_v15 n a m b o xs).fst
noncomputable def slices_symMergeCmpFunc_B_v7 (n : Nat) (a : Int) (m : Int) (b : Int) (o : List AV) (xs : List AV) : Int := (slices_symMergeCmpFunc_B_v19 n a m b o xs).fst
noncomputable def slices_symMergeCmpFunc_B_v8 (n : Nat) (a : Int) (m : Int) (b : Int) (o : List AV) (xs : List AV) : List AV := (slices_symMergeCmpFunc_B_v15 n a m b o xs).snd
noncomputable def slices_symMergeCmpFunc_B_v9 (n : Nat) (a : Int) (m : Int) (b : Int) (o : List AV) (xs : List AV) : List AV := (slices_symMergeCmpFunc_B_v19 n a m b o xs).snd
noncomputable def slices_symMergeCmpFunc_B_v2 (n : Nat) (a : Int) (m : Int) (b : Int) (o : List AV) (xs : List AV) : Int := IntKind.i64.wrap (IntKind.i64.wrap (slices_symMergeCmpFunc_B_v13 a b + m) - slices_symMergeCmpFunc_B_v6 n a m b o xs)
noncomputable def slices_symMergeCmpFunc_B_v5 (n : Nat) (a : Int) (m : Int) (b : Int) (o : List AV) (xs : List AV) : Int := IntKind.i64.wrap (IntKind.i64.wrap (slices_symMergeCmpFunc_B_v13 a b + m) - slices_symMergeCmpFunc_B_v7 n a m b o xs)
noncomputable def slices_symMergeCmpFunc_B_v10 (n : Nat) (a : Int) (m : Int) (b : Int) (o : List AV) (xs : List AV) : Bool := decide (slices_symMergeCmpFunc_B_v6 n a m b o xs < slices_symMergeCmpFunc_B_v13 a b)
noncomputable def slices_symMergeCmpFunc_B_v11 (n : Nat) (a : Int) (m : Int) (b : Int) (o : List AV) (xs : List AV) : Bool := decide (a < slices_symMergeCmpFunc_B_v6 n a m b o xs)
noncomputable def slices_symMergeCmpFunc_B_v12 (n : Nat) (a : Int) (m : Int) (b : Int) (o : List AV) (xs : List AV) : Bool := decide (slices_symMergeCmpFunc_B_v7 n a m b o xs < slices_symMergeCmpFunc_B_v13 a b)
noncomputable def slices_symMergeCmpFunc_B_v14 (n : Nat) (a : Int) (m : Int) (b : Int) (o : List AV) (xs : List AV) : Bool := decide (a < slices_symMergeCmpFunc_B_v7 n a m b o xs)
noncomputable def slices_symMergeCmpFunc_B_v0 (n : Nat) (a : Int) (m : Int) (b : Int) (o : List AV) (xs : List AV) : Bool := decide (slices_symMergeCmpFunc_B_v13 a b < slices_symMergeCmpFunc_B_v2 n a m b o xs)
noncomputable def slices_symMergeCmpFunc_B_v1 (n : Nat) (a : Int) (m : Int) (b : Int) (o : List AV) (xs : List AV) : Bool := decide (slices_symMergeCmpFunc_B_v2 n a m b o xs < b)
noncomputable def slices_symMergeCmpFunc_B_v3 (n : Nat) (a : Int) (m : Int) (b : Int) (o : List AV) (xs : List AV) : Bool := decide (slices_symMergeCmpFunc_B_v13 a b < slices_symMergeCmpFunc_B_v5 n a m b o xs)
noncomputable def slices_symMergeCmpFunc_B_v4 (n : Nat) (a : Int) (m : Int) (b : Int) (o : List AV) (xs : List AV) : Bool := decide (slices_symMergeCmpFunc_B_v5 n a m b o xs < b)
noncomputable def slices_symMergeCmpFunc_B_v23 (n : Nat) (a : Int) (m : Int) (b : Int) (o : List AV) (xs : List AV) : List AV := (slices_rotateCmpFunc_B n (slices_symMergeCmpFunc_B_v6 n a m b o xs) m (slices_symMergeCmpFunc_B_v2 n a m b o xs) o (slices_symMergeCmpFunc_B_v8 n a m b o xs)).getD []
noncomputable def slices_symMergeCmpFunc_B_v24 (n : Nat) (a : Int) (m : Int) (b : Int) (o : List AV) (xs : List AV) : List AV := (slices_rotateCmpFunc_B n (slices_symMergeCmpFunc_B_v7 n a m b o xs) m (slices_symMergeCmpFunc_B_v5 n a m b o xs) o (slices_symMergeCmpFunc_B_v9 n a m b o xs)).getD []
noncomputable def slices_symMergeCmpFunc_B_v21 (R : Nat → Int → Int → Int → List AV → List AV → Option (List AV)) (n : Nat) (a : Int) (m : Int) (b : Int) (o : List AV) (xs : List AV) : Option (List AV) := R n (slices_symMergeCmpFunc_B_v13 a b) (slices_symMergeCmpFunc_B_v2 n a m b o xs) b o ((R n a (slices_symMergeCmpFunc_B_v6 n a m b o xs) (slices_symMergeCmpFunc_B_v13 a b) o (slices_symMergeCmpFunc_B_v23 n a m b o xs)).getD [])
noncomputable def slices_symMergeCmpFunc_B_v22 (R : Nat → Int → Int → Int → List AV → List AV → Option (List AV)) (n : Nat) (a : Int) (m : Int) (b : Int) (o : List AV) (xs : List AV) : Option (List AV) := R n (slices_symMergeCmpFunc_B_v13 a b) (slices_symMergeCmpFunc_B_v5 n a m b o xs) b o ((R n a (slices_symMergeCmpFunc_B_v7 n a m b o xs) (slices_symMergeCmpFunc_B_v13 a b) o (slices_symMergeCmpFunc_B_v24 n a m b o xs)).getD [])
noncomputable def slices_symMergeCmpFunc_B_t {T : Type} (R : Nat → Int → Int → Int → List AV → List AV → Option (List AV)) (n : Nat) (a : Int) (m : Int) (b : Int) (o : List AV) (xs : List AV) (δ : T) (κ : List AV → T) : T := br (IntKind.i64.wrap (m - a) == (1 : Int)) (br ((Iter (slices_symMergeCmpFunc_B_l0_step n a o) (m, b, xs)).isSome) (br ((slices_symMergeCmpFunc_B_v16 n a m b o xs).isSome) (κ ((slices_symMergeCmpFunc_B_v16 n a m b o xs).getD [])) (δ)) (δ)) (br (IntKind.i64.wrap (b - m) == (1 : Int)) (br ((Iter (slices_symMergeCmpFunc_B_l2_step n m o) (a, m, xs)).isSome) (br ((slices_symMergeCmpFunc_B_v17 n a m o xs).isSome) (κ ((slices_symMergeCmpFunc_B_v17 n a m o xs).getD [])) (δ)) (δ)) (br (decide (m > slices_symMergeCmpFunc_B_v13 a b)) (br ((slices_symMergeCmpFunc_B_v18 n a m b o xs).isSome) (br (decide (slices_symMergeCmpFunc_B_v6 n a m b o xs < m)) (br (decide (m < slices_symMergeCmpFunc_B_v2 n a m b o xs)) (br ((slices_rotateCmpFunc_B n (slices_symMergeCmpFunc_B_v6 n a m b o xs) m (slices_symMergeCmpFunc_B_v2 n a m b o xs) o (slices_symMergeCmpFunc_B_v8 n a m b o xs)).isSome) (br (slices_symMergeCmpFunc_B_v11 n a m b o xs) (br (slices_symMergeCmpFunc_B_v10 n a m b o xs) (br ((R n a (slices_symMergeCmpFunc_B_v6 n a m b o xs) (slices_symMergeCmpFunc_B_v13 a b) o (slices_symMergeCmpFunc_B_v23 n a m b o xs)).isSome) (br (slices_symMergeCmpFunc_B_v0 n a m b o xs) (br (slices_symMergeCmpFunc_B_v1 n a m b o xs) (br ((slices_symMergeCmpFunc_B_v21 R n a m b o xs).isSome) (κ ((slices_symMergeCmpFunc_B_v21 R n a m b o xs).getD [])) (δ)) (κ ((R n a (slices_symMergeCmpFunc_B_v6 n a m b o xs) (slices_symMergeCmpFunc_B_v13 a b) o (slices_symMergeCmpFunc_B_v23 n a m b o xs)).getD []))) (κ ((R n a (slices_symMergeCmpFunc_B_v6 n a m b o xs) (slices_symMergeCmpFunc_B_v13 a b) o (slices_symMergeCmpFunc_B_v23 n a m b o xs)).getD []))) (δ)) (br (slices_symMergeCmpFunc_B_v0 n a m b o xs) (br (slices_symMergeCmpFunc_B_v1 n a m b o xs) (br ((R n (slices_symMergeCmpFunc_B_v13 a b) (slices_symMergeCmpFunc_B_v2 n a m b o xs) b o (slices_symMergeCmpFunc_B_v23 n a m b o xs)).isSome) (κ ((R n (slices_symMergeCmpFunc_B_v13 a b) (slices_symMergeCmpFunc_B_v2 n a m b o xs) b o (slices_symMergeCmpFunc_B_v23 n a m b o xs)).getD [])) (δ)) (κ (slices_symMergeCmpFunc_B_v23 n a m b o xs))) (κ (slices_symMergeCmpFunc_B_v23 n a m b o xs)))) (br (slices_symMergeCmpFunc_B_v0 n a m b o xs) (br (slices_symMergeCmpFunc_B_v1 n a m b o xs) (br ((R n (slices_symMergeCmpFunc_B_v13 a b) (slices_symMergeCmpFunc_B_v2 n a m b o xs) b o (slices_symMergeCmpFunc_B_v23 n a m b o xs)).isSome) (κ ((R n (slices_symMergeCmpFunc_B_v13 a b) (slices_symMergeCmpFunc_B_v2 n a m b o xs) b o (slices_symMergeCmpFunc_B_v23 n a m b o xs)).getD [])) (δ)) (κ (slices_symMergeCmpFunc_B_v23 n a m b o xs))) (κ (slices_symMergeCmpFunc_B_v23 n a m b o xs)))) (δ)) (br (slices_symMergeCmpFunc_B_v11 n a m b o xs) (br (slices_symMergeCmpFunc_B_v10 n a m b o xs) (br ((R n a (slices_symMergeCmpFunc_B_v6 n a m b o xs) (slices_symMergeCmpFunc_B_v13 a b) o (slices_symMergeCmpFunc_B_v8 n a m b o xs)).isSome) (br (slices_symMergeCmpFunc_B_v0 n a m b o xs) (br (slices_symMergeCmpFunc_B_v1 n a m b o xs) (br ((R n (slices_symMergeCmpFunc_B_v13 a b) (slices_symMergeCmpFunc_B_v2 n a m b o xs) b o ((R n a (slices_symMergeCmpFunc_B_v6 n a m b o xs) (slices_symMergeCmpFunc_B_v13 a b) o (slices_symMergeCmpFunc_B_v8 n a m b o xs)).getD [])).isSome) (κ ((R n (slices_symMergeCmpFunc_B_v13 a b) (slices_symMergeCmpFunc_B_v2 n a m b o xs) b o ((R n a (slices_symMergeCmpFunc_B_v6 n a m b o xs) (slices_symMergeCmpFunc_B_v13 a b) o (slices_symMergeCmpFunc_B_v8 n a m b o xs)).getD [])).getD [])) (δ)) (κ ((R n a (slices_symMergeCmpFunc_B_v6 n a m b o xs) (slices_symMergeCmpFunc_B_v13 a b) o (slices_symMergeCmpFunc_B_v8 n a m b o xs)).getD []))) (κ ((R n a (slices_symMergeCmpFunc_B_v6 n a m b o xs) (slices_symMergeCmpFunc_B_v13 a b) o (slices_symMergeCmpFunc_B_v8 n a m b o xs)).getD []))) (δ)) (br (slices_symMergeCmpFunc_B_v0 n a m b o xs) (br (slices_symMergeCmpFunc_B_v1 n a m b o xs) (br ((R n (slices_symMergeCmpFunc_B_v13 a b) (slices_symMergeCmpFunc_B_v2 n a m b o xs) b o (slices_symMergeCmpFunc_B_v8 n a m b o xs)).isSome) (κ ((R n (slices_symMergeCmpFunc_B_v13 a b) (slices_symMergeCmpFunc_B_v2 n a m b o xs) b o (slices_symMergeCmpFunc_B_v8 n a m b o xs)).getD [])) (δ)) (κ (slices_symMergeCmpFunc_B_v8 n a m b o xs))) (κ (slices_symMergeCmpFunc_B_v8 n a m b o xs)))) (br (slices_symMergeCmpFunc_B_v0 n a m b o xs) (br (slices_symMergeCmpFunc_B_v1 n a m b o xs) (br ((R n (slices_symMergeCmpFunc_B_v13 a b) (slices_symMergeCmpFunc_B_v2 n a m b o xs) b o (slices_symMergeCmpFunc_B_v8 n a m b o xs)).isSome) (κ ((R n (slices_symMergeCmpFunc_B_v13 a b) (slices_symMergeCmpFunc_B_v2 n a m b o xs) b o (slices_symMergeCmpFunc_B_v8 n a m b o xs)).getD [])) (δ)) (κ (slices_symMergeCmpFunc_B_v8 n a m b o xs))) (κ (slices_symMergeCmpFunc_B_v8 n a m b o xs))))) (br (slices_symMergeCmpFunc_B_v11 n a m b o xs) (br (slices_symMergeCmpFunc_B_v10 n a m b o xs) (br ((R n a (slices_symMergeCmpFunc_B_v6 n a m b o xs) (slices_symMergeCmpFunc_B_v13 a b) o (slices_symMergeCmpFunc_B_v8 n a m b o xs)).isSome) (br (slices_symMergeCmpFunc_B_v0 n a m b o xs) (br (slices_symMergeCmpFunc_B_v1 n a m b o xs) (br ((R n (slices_symMergeCmpFunc_B_v13 a b) (slices_symMergeCmpFunc_B_v2 n a m b o xs) b o ((R n a (slices_symMergeCmpFunc_B_v6 n a m b o xs) (slices_symMergeCmpFunc_B_v13 a b) o (slices_symMergeCmpFunc_B_v8 n a m b o xs)).getD [])).isSome) (κ ((R n (slices_symMergeCmpFunc_B_v13 a b) (slices_symMergeCmpFunc_B_v2 n a m b o xs) b o ((R n a (slices_symMergeCmpFunc_B_v6 n a m b o xs) (slices_symMergeCmpFunc_B_v13 a b) o (slices_symMergeCmpFunc_B_v8 n a m b o xs)).getD [])).getD [])) (δ)) (κ ((R n a (slices_symMergeCmpFunc_B_v6 n a m b o xs) (slices_symMergeCmpFunc_B_v13 a b) o (slices_symMergeCmpFunc_B_v8 n a m b o xs)).getD []))) (κ ((R n a (slices_symMergeCmpFunc_B_v6 n a m b o xs) (slices_symMergeCmpFunc_B_v13 a b) o (slices_symMergeCmpFunc_B_v8 n a m b o xs)).getD []))) (δ)) (br (slices_symMergeCmpFunc_B_v0 n a m b o xs) (br (slices_symMergeCmpFunc_B_v1 n a m b o xs) (br ((R n (slices_symMergeCmpFunc_B_v13 a b) (slices_symMergeCmpFunc_B_v2 n a m b o xs) b o (slices_symMergeCmpFunc_B_v8 n a m b o xs)).isSome) (κ ((R n (slices_symMergeCmpFunc_B_v13 a b) (slices_symMergeCmpFunc_B_v2 n a m b o xs) b o (slices_symMergeCmpFunc_B_v8 n a m b o xs)).getD [])) (δ)) (κ (slices_symMergeCmpFunc_B_v8 n a m b o xs))) (κ (slices_symMergeCmpFunc_B_v8 n a m b o xs)))) (br (slices_symMergeCmpFunc_B_v0 n a m b o xs) (br (slices_symMergeCmpFunc_B_v1 n a m b o xs) (br ((R n (slices_symMergeCmpFunc_B_v13 a b) (slices_symMergeCmpFunc_B_v2 n a m b o xs) b o (slices_symMergeCmpFunc_B_v8 n a m b o xs)).isSome) (κ ((R n (slices_symMergeCmpFunc_B_v13 a b) (slices_symMergeCmpFunc_B_v2 n a m b o xs) b o (slices_symMergeCmpFunc_B_v8 n a m b o xs)).getD [])) (δ)) (κ (slices_symMergeCmpFunc_B_v8 n a m b o xs))) (κ (slices_symMergeCmpFunc_B_v8 n a m b o xs))))) (δ)) (br ((slices_symMergeCmpFunc_B_v20 n a m b o xs).isSome) (br (decide (slices_symMergeCmpFunc_B_v7 n a m b o xs < m)) (br (decide (m < slices_symMergeCmpFunc_B_v5 n a m b o xs)) (br ((slices_rotateCmpFunc_B n (slices_symMergeCmpFunc_B_v7 n a m b o xs) m (slices_symMergeCmpFunc_B_v5 n a m b o xs) o (slices_symMergeCmpFunc_B_v9 n a m b o xs)).isSome) (br (slices_symMergeCmpFunc_B_v14 n a m b o xs) (br (slices_symMergeCmpFunc_B_v12 n a m b o xs) (br ((R n a (slices_symMergeCmpFunc_B_v7 n a m b o xs) (slices_symMergeCmpFunc_B_v13 a b) o (slices_symMergeCmpFunc_B_v24 n a m b o xs)).isSome) (br (slices_symMergeCmpFunc_B_v3 n a m b o xs) (br (slices_symMergeCmpFunc_B_v4 n a m b o xs) (br ((slices_symMergeCmpFunc_B_v22 R n a m b o xs).isSome) (κ ((slices_symMergeCmpFunc_B_v22 R n a m b o xs).getD [])) (δ)) (κ ((R n a (slices_symMergeCmpFunc_B_v7 n a m b o xs) (slices_symMergeCmpFunc_B_v13 a b) o (slices_symMergeCmpFunc_B_v24 n a m b o xs)).getD []))) (κ ((R n a (slices_symMergeCmpFunc_B_v7 n a m b o xs) (slices_symMergeCmpFunc_B_v13 a b) o (slices_symMergeCmpFunc_B_v24 n a m b o xs)).getD []))) (δ)) (br (slices_symMergeCmpFunc_B_v3 n a m b o xs) (br (slices_symMergeCmpFunc_B_v4 n a m b o xs) (br ((R n (slices_symMergeCmpFunc_B_v13 a b) (slices_symMergeCmpFunc_B_v5 n a m b o xs) b o (slices_symMergeCmpFunc_B_v24 n a m b o xs)).isSome) (κ ((R n (slices_symMergeCmpFunc_B_v13 a b) (slices_symMergeCmpFunc_B_v5 n a m b o xs) b o (slices_symMergeCmpFunc_B_v24 n a m b o xs)).getD [])) (δ)) (κ (slices_symMergeCmpFunc_B_v24 n a m b o xs))) (κ (slices_symMergeCmpFunc_B_v24 n a m b o xs)))) (br (slices_symMergeCmpFunc_B_v3 n a m b o xs) (br (slices_symMergeCmpFunc_B_v4 n a m b o xs) (br ((R n (slices_symMergeCmpFunc_B_v13 a b) (slices_symMergeCmpFunc_B_v5 n a m b o xs) b o (slices_symMergeCmpFunc_B_v24 n a m b o xs)).isSome) (κ ((R n (slices_symMergeCmpFunc_B_v13 a b) (slices_symMergeCmpFunc_B_v5 n a m b o xs) b o (slices_symMergeCmpFunc_B_v24 n a m b o xs)).getD [])) (δ)) (κ (slices_symMergeCmpFunc_B_v24 n a m b o xs))) (κ (slices_symMergeCmpFunc_B_v24 n a m b o xs)))) (δ)) (br (slices_symMergeCmpFunc_B_v14 n a m b o xs) (br (slices_symMergeCmpFunc_B_v12 n a m b o xs) (br ((R n a (slices_symMergeCmpFunc_B_v7 n a m b o xs) (slices_symMergeCmpFunc_B_v13 a b) o (slices_symMergeCmpFunc_B_v9 n a m b o xs)).isSome) (br (slices_symMergeCmpFunc_B_v3 n a m b o xs) (br (slices_symMergeCmpFunc_B_v4 n a m b o xs) (br ((R n (slices_symMergeCmpFunc_B_v13 a b) (slices_symMergeCmpFunc_B_v5 n a m b o xs) b o ((R n a (slices_symMergeCmpFunc_B_v7 n a m b o xs) (slices_symMergeCmpFunc_B_v13 a b) o (slices_symMergeCmpFunc_B_v9 n a m b o xs)).getD [])).isSome) (κ ((R n (slices_symMergeCmpFunc_B_v13 a b) (slices_symMergeCmpFunc_B_v5 n a m b o xs) b o ((R n a (slices_symMergeCmpFunc_B_v7 n a m b o xs) (slices_symMergeCmpFunc_B_v13 a b) o (slices_symMergeCmpFunc_B_v9 n a m b o xs)).getD [])).getD [])) (δ)) (κ ((R n a (slices_symMergeCmpFunc_B_v7 n a m b o xs) (slices_symMergeCmpFunc_B_v13 a b) o (slices_symMergeCmpFunc_B_v9 n a m b o xs)).getD []))) (κ ((R n a (slices_symMergeCmpFunc_B_v7 n a m b o xs) (slices_symMergeCmpFunc_B_v13 a b) o (slices_symMergeCmpFunc_B_v9 n a m b o xs)).getD []))) (δ)) (br (slices_symMergeCmpFunc_B_v3 n a m b o xs) (br (slices_symMergeCmpFunc_B_v4 n a m b o xs) (br ((R n (slices_symMergeCmpFunc_B_v13 a b) (slices_symMergeCmpFunc_B_v5 n a m b o xs) b o (slices_symMergeCmpFunc_B_v9 n a m b o xs)).isSome) (κ ((R n (slices_symMergeCmpFunc_B_v13 a b) (slices_symMergeCmpFunc_B_v5 n a m b o xs) b o (slices_symMergeCmpFunc_B_v9 n a m b o xs)).getD [])) (δ)) (κ (slices_symMergeCmpFunc_B_v9 n a m b o xs))) (κ (slices_symMergeCmpFunc_B_v9 n a m b o xs)))) (br (slices_symMergeCmpFunc_B_v3 n a m b o xs) (br (slices_symMergeCmpFunc_B_v4 n a m b o xs) (br ((R n (slices_symMergeCmpFunc_B_v13 a b) (slices_symMergeCmpFunc_B_v5 n a m b o xs) b o (slices_symMergeCmpFunc_B_v9 n a m b o xs)).isSome) (κ ((R n (slices_symMergeCmpFunc_B_v13 a b) (slices_symMergeCmpFunc_B_v5 n a m b o xs) b o (slices_symMergeCmpFunc_B_v9 n a m b o xs)).getD [])) (δ)) (κ (slices_symMergeCmpFunc_B_v9 n a m b o xs))) (κ (slices_symMergeCmpFunc_B_v9 n a m b o xs))))) (br (slices_symMergeCmpFunc_B_v14 n a m b o xs) (br (slices_symMergeCmpFunc_B_v12 n a m b o xs) (br ((R n a (slices_symMergeCmpFunc_B_v7 n a m b o xs) (slices_symMergeCmpFunc_B_v13 a b) o (slices_symMergeCmpFunc_B_v9 n a m b o xs)).isSome) (br (slices_symMergeCmpFunc_B_v3 n a m b o xs) (br (slices_symMergeCmpFunc_B_v4 n a m b o xs) (br ((R n (slices_symMergeCmpFunc_B_v13 a b) (slices_symMergeCmpFunc_B_v5 n a m b o xs) b o ((R n a (slices_symMergeCmpFunc_B_v7 n a m b o xs) (slices_symMergeCmpFunc_B_v13 a b) o (slices_symMergeCmpFunc_B_v9 n a m b o xs)).getD [])).isSome) (κ ((R n (slices_symMergeCmpFunc_B_v13 a b) (slices_symMergeCmpFunc_B_v5 n a m b o xs) b o ((R n a (slices_symMergeCmpFunc_B_v7 n a m b o xs) (slices_symMergeCmpFunc_B_v13 a b) o (slices_symMergeCmpFunc_B_v9 n a m b o xs)).getD [])).getD [])) (δ)) (κ ((R n a (slices_symMergeCmpFunc_B_v7 n a m b o xs) (slices_symMergeCmpFunc_B_v13 a b) o (slices_symMergeCmpFunc_B_v9 n a m b o xs)).getD []))) (κ ((R n a (slices_symMergeCmpFunc_B_v7 n a m b o xs) (slices_symMergeCmpFunc_B_v13 a b) o (slices_symMergeCmpFunc_B_v9 n a m b o xs)).getD []))) (δ)) (br (slices_symMergeCmpFunc_B_v3 n a m b o xs) (br (slices_symMergeCmpFunc_B_v4 n a m b o xs) (br ((R n (slices_symMergeCmpFunc_B_v13 a b) (slices_symMergeCmpFunc_B_v5 n a m b o xs) b o (slices_symMergeCmpFunc_B_v9 n a m b o xs)).isSome) (κ ((R n (slices_symMergeCmpFunc_B_v13 a b) (slices_symMergeCmpFunc_B_v5 n a m b o xs) b o (slices_symMergeCmpFunc_B_v9 n a m b o xs)).getD [])) (δ)) (κ (slices_symMergeCmpFunc_B_v9 n a m b o xs))) (κ (slices_symMergeCmpFunc_B_v9 n a m b o xs)))) (br (slices_symMergeCmpFunc_B_v3 n a m b o xs) (br (slices_symMergeCmpFunc_B_v4 n a m b o xs) (br ((R n (slices_symMergeCmpFunc_B_v13 a b) (slices_symMergeCmpFunc_B_v5 n a m b o xs) b o (slices_symMergeCmpFunc_B_v9 n a m b o xs)).isSome) (κ ((R n (slices_symMergeCmpFunc_B_v13 a b) (slices_symMergeCmpFunc_B_v5 n a m b o xs) b o (slices_symMergeCmpFunc_B_v9 n a m b o xs)).getD [])) (δ)) (κ (slices_symMergeCmpFunc_B_v9 n a m b o xs))) (κ (slices_symMergeCmpFunc_B_v9 n a m b o xs))))) (δ))))
noncomputable def slices_symMergeCmpFunc_B (R : Nat → Int → Int → Int → List AV → List AV → Option (List AV)) (n : Nat) (a : Int) (m : Int) (b : Int) (o : List AV) (xs : List AV) : Option (List AV) := slices_symMergeCmpFunc_B_t R n a m b o xs none some
theorem slices_symMergeCmpFunc_B_x (R : Nat → Int → Int → Int → List AV → List AV → Option (List AV)) (n : Nat) (a : Int) (m : Int) (b : Int) (o : List AV) (xs : List AV) : Enc (fun (p : List AV) => (((AV.tuple [], ([⟨0, (1 : Nat), (22 : Nat), p, false, true⟩] : List Box))) : (AV × List Box))) (slices_symMergeCmpFunc_B R n a m b o xs) (XFM Tryd.prog (slices_symMergeCmpFunc_B_ER R) Tryd.f80 (Tryd.f80.body.getD .skip) [AV.osl (0 : Nat) (0 : Nat) (0 : Nat) n, AV.int IntKind.i64 a, AV.int IntKind.i64 m, AV.int IntKind.i64 b, AV.func (38 : FuncId) [AV.eptr (1 : Nat) [AV.list (2 : Nat) o] (0 : Nat) (0 : Nat)]] [{ ver := (0 : Nat), sz := (1 : Nat), ty := (22 : TypeId), xs := xs, frz := false, pm := true }]) := by
  have h : XFM Tryd.prog (slices_symMergeCmpFunc_B_ER R) Tryd.f80 (Tryd.f80.body.getD .skip) [AV.osl (0 : Nat) (0 : Nat) (0 : Nat) n, AV.int IntKind.i64 a, AV.int IntKind.i64 m, AV.int IntKind.i64 b, AV.func (38 : FuncId) [AV.eptr (1 : Nat) [AV.list (2 : Nat) o] (0 : Nat) (0 : Nat)]] [{ ver := (0 : Nat), sz := (1 : Nat), ty := (22 : TypeId), xs := xs, frz := false, pm := true }] = slices_symMergeCmpFunc_B_t R n a m b o xs none (fun (p : List AV) => some (((AV.tuple [], ([⟨0, (1 : Nat), (22 : Nat), p, false, true⟩] : List Box))) : (AV × List Box))) := by kernel_rfl
  rw [h]; unfold slices_symMergeCmpFunc_B slices_symMergeCmpFunc_B_t; repeat' (first | exact Enc.none | exact Enc.some rfl | refine Enc.br ?_ ?_)
noncomputable def slices_symMergeCmpFunc_B_o (R : Nat → Int → Int → Int → List AV → List AV → Option (List AV)) : List AV → List Box → Option (Bool × AV × List Box) := omOf (sCons (sEq (pOsl (0 : Nat) (0 : Nat) (0 : Nat))) (sCons (sEq (pInt IntKind.i64)) (sCons (sEq (pInt IntKind.i64)) (sCons (sEq (pInt IntKind.i64)) (sCons (sEq (pFunc (38 : FuncId) (pCons (pEptr (1 : Nat) (0 : Nat) (0 : Nat) (pCons (pList (2 : Nat) pAny) pNil)) pNil))) sNil))))) (pCons (pBox (0 : Nat) (1 : Nat) (22 : TypeId) false true pAny) pNil) fun (n, (a, (m, (b, (((o, _), _), _))))) (xs, _) => ((slices_symMergeCmpFunc_B R n a m b o xs).isSome, ((AV.tuple [], ([⟨0, (1 : Nat), (22 : Nat), ((slices_symMergeCmpFunc_B R n a m b o xs).getD []), false, true⟩] : List Box))))
theorem slices_symMergeCmpFunc_B_c (R : Nat → Int → Int → Int → List AV → List AV → Option (List AV)) (hR : slices_symMergeCmpFunc_B_ER_hR R) : OmOk Tryd.prog ITryd 80 (slices_symMergeCmpFunc_B_o R) := omOk_of fun vv bb rr hh' hh => by
  obtain ⟨n, ⟨a, ⟨m, ⟨b, ⟨⟨⟨o, _⟩, _⟩, _⟩⟩⟩⟩⟩ := vv
  obtain ⟨xs, _⟩ := bb
  obtain ⟨hh1, hh2⟩ := Prod.mk.inj hh
  refine goodM_pin (p := (slices_symMergeCmpFunc_B_ER R).pin) (goodM_XFM mxTryd (inv0Ok Tryd.prog _) rfl (slices_symMergeCmpFunc_B_ER_ok R hR) rfl Tryd.func80 rfl (by kernel_rfl) (slices_symMergeCmpFunc_B_ER_lk80 R) ((slices_symMergeCmpFunc_B_x R _ _ _ _ _ _ _ (getD_of_isSome (d := []) hh1)).trans ?_))
  exact congrArg some hh2


noncomputable def slices_symMergeCmpFunc_B_R : Nat → Nat → Int → Int → Int → List AV → List AV → Option (List AV)
  | 0 => fun _ _ _ _ _ _ => none
  | fu_ + 1 => fun n a m b o xs => slices_symMergeCmpFunc_B (slices_symMergeCmpFunc_B_R fu_) n a m b o xs

theorem slices_symMergeCmpFunc_B_R_ok : ∀ n, slices_symMergeCmpFunc_B_ER_hR (slices_symMergeCmpFunc_B_R n)
  | 0 => omOk_of fun _ _ _ _ h => absurd (Prod.mk.inj h).1 Bool.false_ne_true
  | fu_ + 1 => fun xs H r H1 h => slices_symMergeCmpFunc_B_c (slices_symMergeCmpFunc_B_R fu_) (slices_symMergeCmpFunc_B_R_ok fu_) xs H r H1 h

noncomputable def EL6_4 : Env := EL6_3.withM 80 (slices_symMergeCmpFunc_B_recO (slices_symMergeCmpFunc_B_R 1000))

theorem EL6_4_ok : OrcOk Tryd.prog ITryd EL6_4 := EL6_3_ok.withM (slices_symMergeCmpFunc_B_R_ok _)

/-- The environment of slices.stableCmpFunc   bitemporal/api.Value : its loops so far. -/

noncomputable def slices_stableCmpFunc_B_E0 : Env := EL6_4.fn 63 1 (lsOf [22]) (lpsOf [])

theorem slices_stableCmpFunc_B_E0_ok : OrcOk Tryd.prog (ITryd.at 1) slices_stableCmpFunc_B_E0 := EL6_4_ok.fn

theorem slices_stableCmpFunc_B_E0_lk71_0 : LoOk Tryd.prog (ITryd.at slices_stableCmpFunc_B_E0.pin) slices_stableCmpFunc_B_E0 (loopAt Tryd.f71 0) := loOk_nil (by kernel_rfl)

/- 5 nodes -/
noncomputable def slices_stableCmpFunc_B_l0_t {T : Type} (data : Nat) (n : Int) (cmp : List AV) (blockSize : Int) (a : Int) (b : Int) (data_xs : List AV) (δ : T) (κl : (Int × Int × List AV) → T) (κr : (Int × List AV) → T) : T := br (decide (b ≤ n)) (br ((slices_insertionSortCmpFunc_B data a b cmp data_xs).isSome) (κl (b, IntKind.i64.wrap (b + blockSize), (slices_insertionSortCmpFunc_B data a b cmp data_xs).getD [])) (δ)) (κr (a, data_xs))
noncomputable def slices_stableCmpFunc_B_l0_step (data : Nat) (n : Int) (cmp : List AV) (blockSize : Int) : (Int × Int × List AV) → Option ((Int × Int × List AV) ⊕ (Int × List AV)) := fun (a, b, data_xs) => slices_stableCmpFunc_B_l0_t data n cmp blockSize a b data_xs none (fun s => some (.inl s)) (fun p => some (.inr p))
noncomputable def slices_stableCmpFunc_B_l0_L (data : Nat) (n : Int) (cmp : List AV) (blockSize : Int) : (Int × Int × List AV) → List AV × List Box := fun (a, b, data_xs) => ([AV.osl 0 0 0 data, AV.int IntKind.i64 n, AV.func (38 : Nat) [AV.eptr (1 : Nat) [AV.list (2 : Nat) cmp] 0 0], AV.int IntKind.i64 blockSize, AV.int IntKind.i64 a, AV.int IntKind.i64 b], [⟨0, (1 : Nat), (22 : Nat), data_xs, false, true⟩])
noncomputable def slices_stableCmpFunc_B_l0_out (data : Nat) (n : Int) (cmp : List AV) (blockSize : Int) : (Int × List AV) → LR := fun p => (.leaf (Exit.exit (0 : Nat)) [AV.osl 0 0 0 data, AV.int IntKind.i64 n, AV.func (38 : Nat) [AV.eptr (1 : Nat) [AV.list (2 : Nat) cmp] 0 0], AV.int IntKind.i64 blockSize, AV.int IntKind.i64 p.1] [⟨0, (1 : Nat), (22 : Nat), p.2, false, true⟩])
noncomputable abbrev slices_stableCmpFunc_B_l0_X (vals : List AV) (H : List Box) := XR Tryd.prog slices_stableCmpFunc_B_E0 [0, 1, 2, 6, 7, 8] [0, 1, 2, 6, 7] [] (loopAt Tryd.f71 0) vals H
theorem slices_stableCmpFunc_B_l0_r (data : Nat) (n : Int) (cmp : List AV) (blockSize : Int) (s : Int × Int × List AV) : Enc (encR (slices_stableCmpFunc_B_l0_L data n cmp blockSize) (slices_stableCmpFunc_B_l0_out data n cmp blockSize)) (slices_stableCmpFunc_B_l0_step data n cmp blockSize s) (slices_stableCmpFunc_B_l0_X (slices_stableCmpFunc_B_l0_L data n cmp blockSize s).1 (slices_stableCmpFunc_B_l0_L data n cmp blockSize s).2) := by
  obtain ⟨a, b, data_xs⟩ := s
  have h : slices_stableCmpFunc_B_l0_X (slices_stableCmpFunc_B_l0_L data n cmp blockSize (a, b, data_xs)).1 (slices_stableCmpFunc_B_l0_L data n cmp blockSize (a, b, data_xs)).2 = slices_stableCmpFunc_B_l0_t data n cmp blockSize a b data_xs none (fun s => some (encR (slices_stableCmpFunc_B_l0_L data n cmp blockSize) (slices_stableCmpFunc_B_l0_out data n cmp blockSize) (.inl s))) (fun p => some (encR (slices_stableCmpFunc_B_l0_L data n cmp blockSize) (slices_stableCmpFunc_B_l0_out data n cmp blockSize) (.inr p))) := by kernel_rfl
  rw [h]; unfold slices_stableCmpFunc_B_l0_step slices_stableCmpFunc_B_l0_t; repeat' (first | exact Enc.none | exact Enc.some rfl | refine Enc.br ?_ ?_)
noncomputable def slices_stableCmpFunc_B_l0_lp : Lp := lpOf [0, 1, 2, 6, 7, 8] [0, 1, 2, 6, 7] [] (pCons (pOsl (0 : Nat) (0 : Nat) (0 : Nat)) (pCons (pInt IntKind.i64) (pCons (pFunc (38 : Nat) (pCons (pEptr (1 : Nat) (0 : Nat) (0 : Nat) (pCons (pList (2 : Nat) pAny) pNil)) pNil)) (pCons (pInt IntKind.i64) (pCons (pInt IntKind.i64) (pCons (pInt IntKind.i64) pNil)))))) (pCons (pBox (0 : Nat) (1 : Nat) (22 : Nat) false true pAny) pNil) fun (data, (n, (((cmp, _), _), (blockSize, (a, (b, _)))))) (data_xs, _) => ((Iter (slices_stableCmpFunc_B_l0_step data n cmp blockSize) (a, b, data_xs)).isSome, slices_stableCmpFunc_B_l0_out data n cmp blockSize ((Iter (slices_stableCmpFunc_B_l0_step data n cmp blockSize) (a, b, data_xs)).getD (0, [])))
theorem slices_stableCmpFunc_B_l0_lok : LoopOk Tryd.prog (ITryd.at slices_stableCmpFunc_B_E0.pin) slices_stableCmpFunc_B_E0.nt (loopAt Tryd.f71 0) slices_stableCmpFunc_B_l0_lp := lok_of fun vv bb rr hh => by
  obtain ⟨data, ⟨n, ⟨⟨⟨cmp, _⟩, _⟩, ⟨blockSize, ⟨a, ⟨b, _⟩⟩⟩⟩⟩⟩ := vv
  obtain ⟨data_xs, _⟩ := bb
  obtain ⟨hh1, rfl⟩ := Prod.mk.inj hh
  exact loop_of_XR mxTryd (inv0Ok Tryd.prog _) rfl slices_stableCmpFunc_B_E0_ok slices_stableCmpFunc_B_E0_lk71_0 (slices_stableCmpFunc_B_l0_L data n cmp blockSize) (slices_stableCmpFunc_B_l0_out data n cmp blockSize) (fun p => by simp only [slices_stableCmpFunc_B_l0_out, LR.eval]; first | (simp; done) | (repeat' split <;> simp)) (slices_stableCmpFunc_B_l0_r data n cmp blockSize) (s := (a, b, data_xs)) (getD_of_isSome hh1)


/-- The environment of slices.stableCmpFunc   bitemporal/api.Value : its loops so far. -/

noncomputable def slices_stableCmpFunc_B_E1 : Env := EL6_4.fn 63 1 (lsOf [22]) (lpsOf [(2, slices_stableCmpFunc_B_l0_lp)])

theorem slices_stableCmpFunc_B_E1_ok : OrcOk Tryd.prog (ITryd.at 1) slices_stableCmpFunc_B_E1 := EL6_4_ok.fn

theorem slices_stableCmpFunc_B_E1_lk71_2 : LoOk Tryd.prog (ITryd.at slices_stableCmpFunc_B_E1.pin) slices_stableCmpFunc_B_E1 (loopAt Tryd.f71 2) := loOk_nil (by kernel_rfl)

/- 5 nodes -/
noncomputable def slices_stableCmpFunc_B_l2_t {T : Type} (data : Nat) (n : Int) (cmp : List AV) (blockSize : Int) (a : Int) (b : Int) (data_xs : List AV) (δ : T) (κl : (Int × Int × List AV) → T) (κr : (Int × List AV) → T) : T := br (decide (b ≤ n)) (br ((slices_symMergeCmpFunc_B_R (1000 : Nat) data a (IntKind.i64.wrap (a + blockSize)) b cmp data_xs).isSome) (κl (b, IntKind.i64.wrap (b + IntKind.i64.wrap ((2 : Int) * blockSize)), (slices_symMergeCmpFunc_B_R (1000 : Nat) data a (IntKind.i64.wrap (a + blockSize)) b cmp data_xs).getD [])) (δ)) (κr (a, data_xs))
noncomputable def slices_stableCmpFunc_B_l2_step (data : Nat) (n : Int) (cmp : List AV) (blockSize : Int) : (Int × Int × List AV) → Option ((Int × Int × List AV) ⊕ (Int × List AV)) := fun (a, b, data_xs) => slices_stableCmpFunc_B_l2_t data n cmp blockSize a b data_xs none (fun s => some (.inl s)) (fun p => some (.inr p))
noncomputable def slices_stableCmpFunc_B_l2_L (data : Nat) (n : Int) (cmp : List AV) (blockSize : Int) : (Int × Int × List AV) → List AV × List Box := fun (a, b, data_xs) => ([AV.osl 0 0 0 data, AV.int IntKind.i64 n, AV.func (38 : Nat) [AV.eptr (1 : Nat) [AV.list (2 : Nat) cmp] 0 0], AV.int IntKind.i64 blockSize, AV.int IntKind.i64 a, AV.int IntKind.i64 b], [⟨0, (1 : Nat), (22 : Nat), data_xs, false, true⟩])
noncomputable def slices_stableCmpFunc_B_l2_out (data : Nat) (n : Int) (cmp : List AV) (blockSize : Int) : (Int × List AV) → LR := fun p => (.leaf (Exit.exit (4 : Nat)) [AV.osl 0 0 0 data, AV.int IntKind.i64 n, AV.func (38 : Nat) [AV.eptr (1 : Nat) [AV.list (2 : Nat) cmp] 0 0], AV.int IntKind.i64 blockSize, AV.int IntKind.i64 p.1] [⟨0, (1 : Nat), (22 : Nat), p.2, false, true⟩])
noncomputable abbrev slices_stableCmpFunc_B_l2_X (vals : List AV) (H : List Box) := XR Tryd.prog slices_stableCmpFunc_B_E1 [0, 1, 2, 6, 7, 8] [0, 1, 2, 6, 7] [] (loopAt Tryd.f71 2) vals H
theorem slices_stableCmpFunc_B_l2_r (data : Nat) (n : Int) (cmp : List AV) (blockSize : Int) (s : Int × Int × List AV) : Enc (encR (slices_stableCmpFunc_B_l2_L data n cmp blockSize) (slices_stableCmpFunc_B_l2_out data n cmp blockSize)) (slices_stableCmpFunc_B_l2_step data n cmp blockSize s) (slices_stableCmpFunc_B_l2_X (slices_stableCmpFunc_B_l2_L data n cmp blockSize s).1 (slices_stableCmpFunc_B_l2_L data n cmp blockSize s).2) := by
  obtain ⟨a, b, data_xs⟩ := s
  have h : slices_stableCmpFunc_B_l2_X (slices_stableCmpFunc_B_l2_L data n cmp blockSize (a, b, data_xs)).1 (slices_stableCmpFunc_B_l2_L data n cmp blockSize (a, b, data_xs)).2 = slices_stableCmpFunc_B_l2_t data n cmp blockSize a b data_xs none (fun s => some (encR (slices_stableCmpFunc_B_l2_L data n cmp blockSize) (slices_stableCmpFunc_B_l2_out data n cmp blockSize) (.inl s))) (fun p => some (encR (slices_stableCmpFunc_B_l2_L data n cmp blockSize) (slices_stableCmpFunc_B_l2_out data n cmp blockSize) (.inr p))) := by kernel_rfl
  rw [h]; unfold slices_stableCmpFunc_B_l2_step slices_stableCmpFunc_B_l2_t; repeat' (first | exact Enc.none | exact Enc.some rfl | refine Enc.br ?_ ?_)
noncomputable def slices_stableCmpFunc_B_l2_lp : Lp := lpOf [0, 1, 2, 6, 7, 8] [0, 1, 2, 6, 7] [] (pCons (pOsl (0 : Nat) (0 : Nat) (0 : Nat)) (pCons (pInt IntKind.i64) (pCons (pFunc (38 : Nat) (pCons (pEptr (1 : Nat) (0 : Nat) (0 : Nat) (pCons (pList (2 : Nat) pAny) pNil)) pNil)) (pCons (pInt IntKind.i64) (pCons (pInt IntKind.i64) (pCons (pInt IntKind.i64) pNil)))))) (pCons (pBox (0 : Nat) (1 : Nat) (22 : Nat) false true pAny) pNil) fun (data, (n, (((cmp, _), _), (blockSize, (a, (b, _)))))) (data_xs, _) => ((Iter (slices_stableCmpFunc_B_l2_step data n cmp blockSize) (a, b, data_xs)).isSome, slices_stableCmpFunc_B_l2_out data n cmp blockSize ((Iter (slices_stableCmpFunc_B_l2_step data n cmp blockSize) (a, b, data_xs)).getD (0, [])))
theorem slices_stableCmpFunc_B_l2_lok : LoopOk Tryd.prog (ITryd.at slices_stableCmpFunc_B_E1.pin) slices_stableCmpFunc_B_E1.nt (loopAt Tryd.f71 2) slices_stableCmpFunc_B_l2_lp := lok_of fun vv bb rr hh => by
  obtain ⟨data, ⟨n, ⟨⟨⟨cmp, _⟩, _⟩, ⟨blockSize, ⟨a, ⟨b, _⟩⟩⟩⟩⟩⟩ := vv
  obtain ⟨data_xs, _⟩ := bb
  obtain ⟨hh1, rfl⟩ := Prod.mk.inj hh
  exact loop_of_XR mxTryd (inv0Ok Tryd.prog _) rfl slices_stableCmpFunc_B_E1_ok slices_stableCmpFunc_B_E1_lk71_2 (slices_stableCmpFunc_B_l2_L data n cmp blockSize) (slices_stableCmpFunc_B_l2_out data n cmp blockSize) (fun p => by simp only [slices_stableCmpFunc_B_l2_out, LR.eval]; first | (simp; done) | (repeat' split <;> simp)) (slices_stableCmpFunc_B_l2_r data n cmp blockSize) (s := (a, b, data_xs)) (getD_of_isSome hh1)


/-- The environment of slices.stableCmpFunc   bitemporal/api.Value : its loops so far. -/

noncomputable def slices_stableCmpFunc_B_E2 : Env := EL6_4.fn 63 1 (lsOf [22]) (lpsOf [(2, slices_stableCmpFunc_B_l0_lp), (9, slices_stableCmpFunc_B_l2_lp)])

theorem slices_stableCmpFunc_B_E2_ok : OrcOk Tryd.prog (ITryd.at 1) slices_stableCmpFunc_B_E2 := EL6_4_ok.fn

theorem slices_stableCmpFunc_B_E2_lk71_1 : LoOk Tryd.prog (ITryd.at slices_stableCmpFunc_B_E2.pin) slices_stableCmpFunc_B_E2 (loopAt Tryd.f71 1) := loOk_all (ls := [loopAt Tryd.f71 2]) (by kernel_rfl) (fun l hl lp hs => by
  simp only [List.mem_cons, List.not_mem_nil, or_false] at hl
  rcases hl with rfl
  · rw [show slices_stableCmpFunc_B_E2.lp (codeId (loopAt Tryd.f71 2)) = some slices_stableCmpFunc_B_l2_lp by kernel_rfl] at hs
    simp only [Option.some.injEq] at hs; subst hs; exact slices_stableCmpFunc_B_l2_lok)

/- 9 nodes -/
noncomputable def slices_stableCmpFunc_B_l1_v5 (data : Nat) (n : Int) (cmp : List AV) (blockSize : Int) (data_xs : List AV) : Option (Int × List AV) := Iter (slices_stableCmpFunc_B_l2_step data n cmp blockSize) ((0 : Int), IntKind.i64.wrap ((2 : Int) * blockSize), data_xs)
noncomputable def slices_stableCmpFunc_B_l1_v4 (data : Nat) (n : Int) (cmp : List AV) (blockSize : Int) (data_xs : List AV) : Int × List AV := (slices_stableCmpFunc_B_l1_v5 data n cmp blockSize data_xs).getD ((0 : Int), [])
noncomputable def slices_stableCmpFunc_B_l1_v2 (data : Nat) (n : Int) (cmp : List AV) (blockSize : Int) (data_xs : List AV) : List AV := (slices_stableCmpFunc_B_l1_v4 data n cmp blockSize data_xs).snd
noncomputable def slices_stableCmpFunc_B_l1_v3 (data : Nat) (n : Int) (cmp : List AV) (blockSize : Int) (data_xs : List AV) : Int := (slices_stableCmpFunc_B_l1_v4 data n cmp blockSize data_xs).fst
noncomputable def slices_stableCmpFunc_B_l1_v1 (data : Nat) (n : Int) (cmp : List AV) (blockSize : Int) (data_xs : List AV) : Int := IntKind.i64.wrap (slices_stableCmpFunc_B_l1_v3 data n cmp blockSize data_xs + blockSize)
noncomputable def slices_stableCmpFunc_B_l1_v0 (data : Nat) (n : Int) (cmp : List AV) (blockSize : Int) (data_xs : List AV) : Option (List AV) := slices_symMergeCmpFunc_B_R (1000 : Nat) data (slices_stableCmpFunc_B_l1_v3 data n cmp blockSize data_xs) (slices_stableCmpFunc_B_l1_v1 data n cmp blockSize data_xs) n cmp (slices_stableCmpFunc_B_l1_v2 data n cmp blockSize data_xs)
noncomputable def slices_stableCmpFunc_B_l1_t {T : Type} (data : Nat) (n : Int) (cmp : List AV) (blockSize : Int) (data_xs : List AV) (δ : T) (κl : (Int × List AV) → T) (κr : (List AV) → T) : T := br (decide (blockSize < n)) (br ((slices_stableCmpFunc_B_l1_v5 data n cmp blockSize data_xs).isSome) (br (decide (slices_stableCmpFunc_B_l1_v1 data n cmp blockSize data_xs < n)) (br ((slices_stableCmpFunc_B_l1_v0 data n cmp blockSize data_xs).isSome) (κl (IntKind.i64.wrap (blockSize * (2 : Int)), (slices_stableCmpFunc_B_l1_v0 data n cmp blockSize data_xs).getD [])) (δ)) (κl (IntKind.i64.wrap (blockSize * (2 : Int)), slices_stableCmpFunc_B_l1_v2 data n cmp blockSize data_xs))) (δ)) (κr (data_xs))
noncomputable def slices_stableCmpFunc_B_l1_step (data : Nat) (n : Int) (cmp : List AV) : (Int × List AV) → Option ((Int × List AV) ⊕ (List AV)) := fun (blockSize, data_xs) => slices_stableCmpFunc_B_l1_t data n cmp blockSize data_xs none (fun s => some (.inl s)) (fun p => some (.inr p))
noncomputable def slices_stableCmpFunc_B_l1_L (data : Nat) (n : Int) (cmp : List AV) : (Int × List AV) → List AV × List Box := fun (blockSize, data_xs) => ([AV.osl 0 0 0 data, AV.int IntKind.i64 n, AV.func (38 : Nat) [AV.eptr (1 : Nat) [AV.list (2 : Nat) cmp] 0 0], AV.int IntKind.i64 blockSize], [⟨0, (1 : Nat), (22 : Nat), data_xs, false, true⟩])
noncomputable def slices_stableCmpFunc_B_l1_out (data : Nat) (n : Int) (cmp : List AV) : (List AV) → LR := fun p => (.leaf (Exit.exit (2 : Nat)) [] [⟨0, (1 : Nat), (22 : Nat), p, false, true⟩])
noncomputable abbrev slices_stableCmpFunc_B_l1_X (vals : List AV) (H : List Box) := XR Tryd.prog slices_stableCmpFunc_B_E2 [0, 1, 2, 6] [] [] (loopAt Tryd.f71 1) vals H
theorem slices_stableCmpFunc_B_l1_r (data : Nat) (n : Int) (cmp : List AV) (s : Int × List AV) : Enc (encR (slices_stableCmpFunc_B_l1_L data n cmp) (slices_stableCmpFunc_B_l1_out data n cmp)) (slices_stableCmpFunc_B_l1_step data n cmp s) (slices_stableCmpFunc_B_l1_X (slices_stableCmpFunc_B_l1_L data n cmp s).1 (slices_stableCmpFunc_B_l1_L data n cmp s).2) := by
  obtain ⟨blockSize, data_xs⟩ := s
  have h : slices_stableCmpFunc_B_l1_X (slices_stableCmpFunc_B_l1_L data n cmp (blockSize, data_xs)).1 (slices_stableCmpFunc_B_l1_L data n cmp (blockSize, data_xs)).2 = slices_stableCmpFunc_B_l1_t data n cmp blockSize data_xs none (fun s => some (encR (slices_stableCmpFunc_B_l1_L data n cmp) (slices_stableCmpFunc_B_l1_out data n cmp) (.inl s))) (fun p => some (encR (slices_stableCmpFunc_B_l1_L data n cmp) (slices_stableCmpFunc_B_l1_out data n cmp) (.inr p))) := by kernel_rfl
  rw [h]; unfold slices_stableCmpFunc_B_l1_step slices_stableCmpFunc_B_l1_t; repeat' (first | exact Enc.none | exact Enc.some rfl | refine Enc.br ?_ ?_)
noncomputable def slices_stableCmpFunc_B_l1_lp : Lp := lpOf [0, 1, 2, 6] [] [] (pCons (pOsl (0 : Nat) (0 : Nat) (0 : Nat)) (pCons (pInt IntKind.i64) (pCons (pFunc (38 : Nat) (pCons (pEptr (1 : Nat) (0 : Nat) (0 : Nat) (pCons (pList (2 : Nat) pAny) pNil)) pNil)) (pCons (pInt IntKind.i64) pNil)))) (pCons (pBox (0 : Nat) (1 : Nat) (22 : Nat) false true pAny) pNil) fun (data, (n, (((cmp, _), _), (blockSize, _)))) (data_xs, _) => ((Iter (slices_stableCmpFunc_B_l1_step data n cmp) (blockSize, data_xs)).isSome, slices_stableCmpFunc_B_l1_out data n cmp ((Iter (slices_stableCmpFunc_B_l1_step data n cmp) (blockSize, data_xs)).getD []))
theorem slices_stableCmpFunc_B_l1_lok : LoopOk Tryd.prog (ITryd.at slices_stableCmpFunc_B_E2.pin) slices_stableCmpFunc_B_E2.nt (loopAt Tryd.f71 1) slices_stableCmpFunc_B_l1_lp := lok_of fun vv bb rr hh => by
  obtain ⟨data, ⟨n, ⟨⟨⟨cmp, _⟩, _⟩, ⟨blockSize, _⟩⟩⟩⟩ := vv
  obtain ⟨data_xs, _⟩ := bb
  obtain ⟨hh1, rfl⟩ := Prod.mk.inj hh
  exact loop_of_XR mxTryd (inv0Ok Tryd.prog _) rfl slices_stableCmpFunc_B_E2_ok slices_stableCmpFunc_B_E2_lk71_1 (slices_stableCmpFunc_B_l1_L data n cmp) (slices_stableCmpFunc_B_l1_out data n cmp) (fun p => by simp only [slices_stableCmpFunc_B_l1_out, LR.eval]; first | (simp; done) | (repeat' split <;> simp)) (slices_stableCmpFunc_B_l1_r data n cmp) (s := (blockSize, data_xs)) (getD_of_isSome hh1)


/-- The environment of slices.stableCmpFunc   bitemporal/api.Value : its loops so far. -/

noncomputable def slices_stableCmpFunc_B_E3 : Env := EL6_4.fn 63 1 (lsOf [22]) (lpsOf [(2, slices_stableCmpFunc_B_l0_lp), (9, slices_stableCmpFunc_B_l2_lp), (7, slices_stableCmpFunc_B_l1_lp)])

theorem slices_stableCmpFunc_B_E3_ok : OrcOk Tryd.prog (ITryd.at 1) slices_stableCmpFunc_B_E3 := EL6_4_ok.fn

theorem slices_stableCmpFunc_B_E3_lk71 : LoOk Tryd.prog (ITryd.at slices_stableCmpFunc_B_E3.pin) slices_stableCmpFunc_B_E3 (Tryd.f71.body.getD .skip) := loOk_all (ls := [loopAt Tryd.f71 0, loopAt Tryd.f71 1, loopAt Tryd.f71 2]) (by kernel_rfl) (fun l hl lp hs => by
  simp only [List.mem_cons, List.not_mem_nil, or_false] at hl
  rcases hl with rfl | rfl | rfl
  · rw [show slices_stableCmpFunc_B_E3.lp (codeId (loopAt Tryd.f71 0)) = some slices_stableCmpFunc_B_l0_lp by kernel_rfl] at hs
    simp only [Option.some.injEq] at hs; subst hs; exact slices_stableCmpFunc_B_l0_lok
  · rw [show slices_stableCmpFunc_B_E3.lp (codeId (loopAt Tryd.f71 1)) = some slices_stableCmpFunc_B_l1_lp by kernel_rfl] at hs
    simp only [Option.some.injEq] at hs; subst hs; exact slices_stableCmpFunc_B_l1_lok
  · rw [show slices_stableCmpFunc_B_E3.lp (codeId (loopAt Tryd.f71 2)) = some slices_stableCmpFunc_B_l2_lp by kernel_rfl] at hs
    simp only [Option.some.injEq] at hs; subst hs; exact slices_stableCmpFunc_B_l2_lok)

/- 7 nodes -/
noncomputable def slices_stableCmpFunc_B_v2 (n : Nat) (k : Int) (o : List AV) (xs : List AV) : Int × List AV := (Iter (slices_stableCmpFunc_B_l0_step n k o (20 : Int)) ((0 : Int), (20 : Int), xs)).getD ((0 : Int), [])
noncomputable def slices_stableCmpFunc_B_v1 (n : Nat) (k : Int) (o : List AV) (xs : List AV) : Option (List AV) := slices_insertionSortCmpFunc_B n (slices_stableCmpFunc_B_v2 n k o xs).fst k o (slices_stableCmpFunc_B_v2 n k o xs).snd
noncomputable def slices_stableCmpFunc_B_v0 (n : Nat) (k : Int) (o : List AV) (xs : List AV) : Option (List AV) := Iter (slices_stableCmpFunc_B_l1_step n k o) ((20 : Int), (slices_stableCmpFunc_B_v1 n k o xs).getD [])
noncomputable def slices_stableCmpFunc_B_t {T : Type} (n : Nat) (k : Int) (o : List AV) (xs : List AV) (δ : T) (κ : List AV → T) : T := br ((Iter (slices_stableCmpFunc_B_l0_step n k o (20 : Int)) ((0 : Int), (20 : Int), xs)).isSome) (br ((slices_stableCmpFunc_B_v1 n k o xs).isSome) (br ((slices_stableCmpFunc_B_v0 n k o xs).isSome) (κ ((slices_stableCmpFunc_B_v0 n k o xs).getD [])) (δ)) (δ)) (δ)
noncomputable def slices_stableCmpFunc_B (n : Nat) (k : Int) (o : List AV) (xs : List AV) : Option (List AV) := slices_stableCmpFunc_B_t n k o xs none some
theorem slices_stableCmpFunc_B_x (n : Nat) (k : Int) (o : List AV) (xs : List AV) : Enc (fun (p : List AV) => (((AV.tuple [], ([⟨0, (1 : Nat), (22 : Nat), p, false, true⟩] : List Box))) : (AV × List Box))) (slices_stableCmpFunc_B n k o xs) (XFM Tryd.prog slices_stableCmpFunc_B_E3 Tryd.f71 (Tryd.f71.body.getD .skip) [AV.osl (0 : Nat) (0 : Nat) (0 : Nat) n, AV.int IntKind.i64 k, AV.func (38 : FuncId) [AV.eptr (1 : Nat) [AV.list (2 : Nat) o] (0 : Nat) (0 : Nat)]] [{ ver := (0 : Nat), sz := (1 : Nat), ty := (22 : TypeId), xs := xs, frz := false, pm := true }]) := by
  have h : XFM Tryd.prog slices_stableCmpFunc_B_E3 Tryd.f71 (Tryd.f71.body.getD .skip) [AV.osl (0 : Nat) (0 : Nat) (0 : Nat) n, AV.int IntKind.i64 k, AV.func (38 : FuncId) [AV.eptr (1 : Nat) [AV.list (2 : Nat) o] (0 : Nat) (0 : Nat)]] [{ ver := (0 : Nat), sz := (1 : Nat), ty := (22 : TypeId), xs := xs, frz := false, pm := true }] = slices_stableCmpFunc_B_t n k o xs none (fun (p : List AV) => some (((AV.tuple [], ([⟨0, (1 : Nat), (22 : Nat), p, false, true⟩] : List Box))) : (AV × List Box))) := by kernel_rfl
  rw [h]; unfold slices_stableCmpFunc_B slices_stableCmpFunc_B_t; repeat' (first | exact Enc.none | exact Enc.some rfl | refine Enc.br ?_ ?_)
noncomputable def slices_stableCmpFunc_B_o : List AV → List Box → Option (Bool × AV × List Box) := omOf (sCons (sEq (pOsl (0 : Nat) (0 : Nat) (0 : Nat))) (sCons (sEq (pInt IntKind.i64)) (sCons (sEq (pFunc (38 : FuncId) (pCons (pEptr (1 : Nat) (0 : Nat) (0 : Nat) (pCons (pList (2 : Nat) pAny) pNil)) pNil))) sNil))) (pCons (pBox (0 : Nat) (1 : Nat) (22 : TypeId) false true pAny) pNil) fun (n, (k, (((o, _), _), _))) (xs, _) => ((slices_stableCmpFunc_B n k o xs).isSome, ((AV.tuple [], ([⟨0, (1 : Nat), (22 : Nat), ((slices_stableCmpFunc_B n k o xs).getD []), false, true⟩] : List Box))))
theorem slices_stableCmpFunc_B_c : OmOk Tryd.prog ITryd 71 (slices_stableCmpFunc_B_o) := omOk_of fun vv bb rr hh' hh => by
  obtain ⟨n, ⟨k, ⟨⟨⟨o, _⟩, _⟩, _⟩⟩⟩ := vv
  obtain ⟨xs, _⟩ := bb
  obtain ⟨hh1, hh2⟩ := Prod.mk.inj hh
  refine goodM_pin (p := slices_stableCmpFunc_B_E3.pin) (goodM_XFM mxTryd (inv0Ok Tryd.prog _) rfl slices_stableCmpFunc_B_E3_ok rfl Tryd.func71 rfl (by kernel_rfl) slices_stableCmpFunc_B_E3_lk71 ((slices_stableCmpFunc_B_x _ _ _ _ _ (getD_of_isSome (d := []) hh1)).trans ?_))
  exact congrArg some hh2


noncomputable def EL6_5 : Env := EL6_4.withM 71 slices_stableCmpFunc_B_o

theorem EL6_5_ok : OrcOk Tryd.prog ITryd EL6_5 := EL6_4_ok.withM slices_stableCmpFunc_B_c

/-- The environment of slices.SortStableFunc     bitemporal/api.Value,  bitemporal/api.Value : its loops so far. -/

noncomputable def slices_SortStableFunc_B_E0 : Env := EL6_5.fn 9 1 (lsOf [22]) (lpsOf [])

theorem slices_SortStableFunc_B_E0_ok : OrcOk Tryd.prog (ITryd.at 1) slices_SortStableFunc_B_E0 := EL6_5_ok.fn

theorem slices_SortStableFunc_B_E0_lk55 : LoOk Tryd.prog (ITryd.at slices_SortStableFunc_B_E0.pin) slices_SortStableFunc_B_E0 (Tryd.f55.body.getD .skip) := loOk_nil (by kernel_rfl)

/- 3 nodes -/
noncomputable def slices_SortStableFunc_B_t {T : Type} (n : Nat) (o : List AV) (xs : List AV) (δ : T) (κ : List AV → T) : T := br ((slices_stableCmpFunc_B n (↑n : Int) o xs).isSome) (κ ((slices_stableCmpFunc_B n (↑n : Int) o xs).getD [])) (δ)
noncomputable def slices_SortStableFunc_B (n : Nat) (o : List AV) (xs : List AV) : Option (List AV) := slices_SortStableFunc_B_t n o xs none some
theorem slices_SortStableFunc_B_x (n : Nat) (o : List AV) (xs : List AV) : Enc (fun (p : List AV) => (((AV.tuple [], ([⟨0, (1 : Nat), (22 : Nat), p, false, true⟩] : List Box))) : (AV × List Box))) (slices_SortStableFunc_B n o xs) (XFM Tryd.prog slices_SortStableFunc_B_E0 Tryd.f55 (Tryd.f55.body.getD .skip) [AV.osl (0 : Nat) (0 : Nat) (0 : Nat) n, AV.func (38 : FuncId) [AV.eptr (1 : Nat) [AV.list (2 : Nat) o] (0 : Nat) (0 : Nat)]] [{ ver := (0 : Nat), sz := (1 : Nat), ty := (22 : TypeId), xs := xs, frz := false, pm := true }]) := by
  have h : XFM Tryd.prog slices_SortStableFunc_B_E0 Tryd.f55 (Tryd.f55.body.getD .skip) [AV.osl (0 : Nat) (0 : Nat) (0 : Nat) n, AV.func (38 : FuncId) [AV.eptr (1 : Nat) [AV.list (2 : Nat) o] (0 : Nat) (0 : Nat)]] [{ ver := (0 : Nat), sz := (1 : Nat), ty := (22 : TypeId), xs := xs, frz := false, pm := true }] = slices_SortStableFunc_B_t n o xs none (fun (p : List AV) => some (((AV.tuple [], ([⟨0, (1 : Nat), (22 : Nat), p, false, true⟩] : List Box))) : (AV × List Box))) := by kernel_rfl
  rw [h]; unfold slices_SortStableFunc_B slices_SortStableFunc_B_t; repeat' (first | exact Enc.none | exact Enc.some rfl | refine Enc.br ?_ ?_)
noncomputable def slices_SortStableFunc_B_o : List AV → List Box → Option (Bool × AV × List Box) := omOf (sCons (sEq (pOsl (0 : Nat) (0 : Nat) (0 : Nat))) (sCons (sEq (pFunc (38 : FuncId) (pCons (pEptr (1 : Nat) (0 : Nat) (0 : Nat) (pCons (pList (2 : Nat) pAny) pNil)) pNil))) sNil)) (pCons (pBox (0 : Nat) (1 : Nat) (22 : TypeId) false true pAny) pNil) fun (n, (((o, _), _), _)) (xs, _) => ((slices_SortStableFunc_B n o xs).isSome, ((AV.tuple [], ([⟨0, (1 : Nat), (22 : Nat), ((slices_SortStableFunc_B n o xs).getD []), false, true⟩] : List Box))))
theorem slices_SortStableFunc_B_c : OmOk Tryd.prog ITryd 55 (slices_SortStableFunc_B_o) := omOk_of fun vv bb rr hh' hh => by
  obtain ⟨n, ⟨⟨⟨o, _⟩, _⟩, _⟩⟩ := vv
  obtain ⟨xs, _⟩ := bb
  obtain ⟨hh1, hh2⟩ := Prod.mk.inj hh
  refine goodM_pin (p := slices_SortStableFunc_B_E0.pin) (goodM_XFM mxTryd (inv0Ok Tryd.prog _) rfl slices_SortStableFunc_B_E0_ok rfl Tryd.func55 rfl (by kernel_rfl) slices_SortStableFunc_B_E0_lk55 ((slices_SortStableFunc_B_x _ _ _ _ (getD_of_isSome (d := []) hh1)).trans ?_))
  exact congrArg some hh2


noncomputable def EL6_6 : Env := EL6_5.withM 55 slices_SortStableFunc_B_o

theorem EL6_6_ok : OrcOk Tryd.prog ITryd EL6_6 := EL6_5_ok.withM slices_SortStableFunc_B_c

/-- The environment of bitemporal/tuple.sorted bitemporal/api.Value : its loops so far. -/

noncomputable def tuple_sorted_B_E0 : Env := EL6_6.fn 27 0 (lsOf [22]) (lpsOf [])

theorem tuple_sorted_B_E0_ok : OrcOk Tryd.prog (ITryd.at 0) tuple_sorted_B_E0 := EL6_6_ok.fn

theorem tuple_sorted_B_E0_lk37_0 : LoOk Tryd.prog (ITryd.at tuple_sorted_B_E0.pin) tuple_sorted_B_E0 (loopAt Tryd.f37 0) := loOk_nil (by kernel_rfl)

/- 11 nodes -/
noncomputable def tuple_sorted_B_l0_t {T : Type} (compare : List AV) (t11 : List AV) (t12 : Int) (out_n : Nat) (t13 : Int) (out_xs : List AV) (δ : T) (κl : (Nat × Int × List AV) → T) (κr : (Nat × List AV) → T) : T := br (decide (t13 < t12)) (br (decide ((0 : Int) ≤ t13) && decide (t13 < (↑t11.length : Int))) (br (decide (t13.toNat < t11.length) && hasSh1 (Sh.list (3 : Nat)) ((t11.getD t13.toNat AV.top).cells.getD (0 : Nat) AV.top)) (br (decide (((t11.getD t13.toNat AV.top).cells.getD (0 : Nat) AV.top).toList.length ≤ (4398046511104 : Nat))) (br (out_n == out_xs.length && (decide ((out_n + (1 : Nat)) * (24 : Nat) ≤ (140737488355328 : Nat)) && decide (out_n + (1 : Nat) ≤ (4611686018427387904 : Nat)))) (κl (out_n + (1 : Nat), IntKind.i64.wrap (t13 + (1 : Int)), out_xs ++ [AV.list (3 : Nat) ((t11.getD t13.toNat AV.top).cells.getD (0 : Nat) AV.top).toList])) (δ)) (δ)) (δ)) (δ)) (κr (out_n, out_xs))
noncomputable def tuple_sorted_B_l0_step (compare : List AV) (t11 : List AV) (t12 : Int) : (Nat × Int × List AV) → Option ((Nat × Int × List AV) ⊕ (Nat × List AV)) := fun (out_n, t13, out_xs) => tuple_sorted_B_l0_t compare t11 t12 out_n t13 out_xs none (fun s => some (.inl s)) (fun p => some (.inr p))
noncomputable def tuple_sorted_B_l0_L (compare : List AV) (t11 : List AV) (t12 : Int) : (Nat × Int × List AV) → List AV × List Box := fun (out_n, t13, out_xs) => ([AV.func (38 : Nat) [AV.eptr (1 : Nat) [AV.list (2 : Nat) compare] 0 0], AV.osl 0 0 0 out_n, AV.list (1 : Nat) t11, AV.int IntKind.i64 t12, AV.int IntKind.i64 t13], [⟨0, (1 : Nat), (22 : Nat), out_xs, false, true⟩])
noncomputable def tuple_sorted_B_l0_out (compare : List AV) (t11 : List AV) (t12 : Int) : (Nat × List AV) → LR := fun p => (.leaf (Exit.exit (0 : Nat)) [AV.func (38 : Nat) [AV.eptr (1 : Nat) [AV.list (2 : Nat) compare] 0 0], AV.osl 0 0 0 p.1] [⟨0, (1 : Nat), (22 : Nat), p.2, false, true⟩])
noncomputable abbrev tuple_sorted_B_l0_X (vals : List AV) (H : List Box) := XR Tryd.prog tuple_sorted_B_E0 [1, 5, 11, 12, 13] [1, 5] [(5, 1, 22)] (loopAt Tryd.f37 0) vals H
theorem tuple_sorted_B_l0_r (compare : List AV) (t11 : List AV) (t12 : Int) (s : Nat × Int × List AV) : Enc (encR (tuple_sorted_B_l0_L compare t11 t12) (tuple_sorted_B_l0_out compare t11 t12)) (tuple_sorted_B_l0_step compare t11 t12 s) (tuple_sorted_B_l0_X (tuple_sorted_B_l0_L compare t11 t12 s).1 (tuple_sorted_B_l0_L compare t11 t12 s).2) := by
  obtain ⟨out_n, t13, out_xs⟩ := s
  have h : tuple_sorted_B_l0_X (tuple_sorted_B_l0_L compare t11 t12 (out_n, t13, out_xs)).1 (tuple_sorted_B_l0_L compare t11 t12 (out_n, t13, out_xs)).2 = tuple_sorted_B_l0_t compare t11 t12 out_n t13 out_xs none (fun s => some (encR (tuple_sorted_B_l0_L compare t11 t12) (tuple_sorted_B_l0_out compare t11 t12) (.inl s))) (fun p => some (encR (tuple_sorted_B_l0_L compare t11 t12) (tuple_sorted_B_l0_out compare t11 t12) (.inr p))) := by kernel_rfl
  rw [h]; unfold tuple_sorted_B_l0_step tuple_sorted_B_l0_t; repeat' (first | exact Enc.none | exact Enc.some rfl | refine Enc.br ?_ ?_)
noncomputable def tuple_sorted_B_l0_lp : Lp := lpOf [1, 5, 11, 12, 13] [1, 5] [(5, 1, 22)] (pCons (pFunc (38 : Nat) (pCons (pEptr (1 : Nat) (0 : Nat) (0 : Nat) (pCons (pList (2 : Nat) pAny) pNil)) pNil)) (pCons (pOsl (0 : Nat) (0 : Nat) (0 : Nat)) (pCons (pList (1 : Nat) pAny) (pCons (pInt IntKind.i64) (pCons (pInt IntKind.i64) pNil))))) (pCons (pBox (0 : Nat) (1 : Nat) (22 : Nat) false true pAny) pNil) fun (((compare, _), _), (out_n, (t11, (t12, (t13, _))))) (out_xs, _) => ((Iter (tuple_sorted_B_l0_step compare t11 t12) (out_n, t13, out_xs)).isSome, tuple_sorted_B_l0_out compare t11 t12 ((Iter (tuple_sorted_B_l0_step compare t11 t12) (out_n, t13, out_xs)).getD (0, [])))
theorem tuple_sorted_B_l0_lok : LoopOk Tryd.prog (ITryd.at tuple_sorted_B_E0.pin) tuple_sorted_B_E0.nt (loopAt Tryd.f37 0) tuple_sorted_B_l0_lp := lok_of fun vv bb rr hh => by
  obtain ⟨⟨⟨compare, _⟩, _⟩, ⟨out_n, ⟨t11, ⟨t12, ⟨t13, _⟩⟩⟩⟩⟩ := vv
  obtain ⟨out_xs, _⟩ := bb
  obtain ⟨hh1, rfl⟩ := Prod.mk.inj hh
  exact loop_of_XR mxTryd (inv0Ok Tryd.prog _) rfl tuple_sorted_B_E0_ok tuple_sorted_B_E0_lk37_0 (tuple_sorted_B_l0_L compare t11 t12) (tuple_sorted_B_l0_out compare t11 t12) (fun p => by simp only [tuple_sorted_B_l0_out, LR.eval]; first | (simp; done) | (repeat' split <;> simp)) (tuple_sorted_B_l0_r compare t11 t12) (s := (out_n, t13, out_xs)) (getD_of_isSome hh1)


/-- The environment of bitemporal/tuple.sorted bitemporal/api.Value : its loops so far. -/

noncomputable def tuple_sorted_B_E1 : Env := EL6_6.fn 27 0 (lsOf [22]) (lpsOf [(3, tuple_sorted_B_l0_lp)])

theorem tuple_sorted_B_E1_ok : OrcOk Tryd.prog (ITryd.at 0) tuple_sorted_B_E1 := EL6_6_ok.fn

theorem tuple_sorted_B_E1_lk37 : LoOk Tryd.prog (ITryd.at tuple_sorted_B_E1.pin) tuple_sorted_B_E1 (Tryd.f37.body.getD .skip) := loOk_all (ls := [loopAt Tryd.f37 0]) (by kernel_rfl) (fun l hl lp hs => by
  simp only [List.mem_cons, List.not_mem_nil, or_false] at hl
  rcases hl with rfl
  · rw [show tuple_sorted_B_E1.lp (codeId (loopAt Tryd.f37 0)) = some tuple_sorted_B_l0_lp by kernel_rfl] at hs
    simp only [Option.some.injEq] at hs; subst hs; exact tuple_sorted_B_l0_lok)

/- 9 nodes -/
noncomputable def tuple_sorted_B_v3 (l : List AV) (o : List AV) : Nat × List AV := (Iter (tuple_sorted_B_l0_step o l (↑l.length : Int)) ((0 : Nat), (0 : Int), [])).getD ((0 : Nat), [])
noncomputable def tuple_sorted_B_v2 (l : List AV) (o : List AV) : Nat := (tuple_sorted_B_v3 l o).fst
noncomputable def tuple_sorted_B_v1 (l : List AV) (o : List AV) : Option (List AV) := slices_SortStableFunc_B (tuple_sorted_B_v2 l o) o (tuple_sorted_B_v3 l o).snd
noncomputable def tuple_sorted_B_v0 (l : List AV) (o : List AV) : List AV := (tuple_sorted_B_v1 l o).getD []
noncomputable def tuple_sorted_B_t {T : Type} (l : List AV) (o : List AV) (δ : T) (κ : List AV → T) : T := br (decide ((24 : Int) * (↑l.length : Int) ≤ (281474976710656 : Int)) && decide ((↑l.length : Int) ≤ (4611686018427387904 : Int))) (br ((Iter (tuple_sorted_B_l0_step o l (↑l.length : Int)) ((0 : Nat), (0 : Int), [])).isSome) (br ((tuple_sorted_B_v1 l o).isSome) (br (decide ((0 : Nat) + tuple_sorted_B_v2 l o ≤ (tuple_sorted_B_v0 l o).length) && true) (κ (List.take (tuple_sorted_B_v2 l o) (List.drop (0 : Nat) (tuple_sorted_B_v0 l o)))) (δ)) (δ)) (δ)) (δ)
noncomputable def tuple_sorted_B (l : List AV) (o : List AV) : Option (List AV) := tuple_sorted_B_t l o none some
theorem tuple_sorted_B_x (l : List AV) (o : List AV) : Enc (fun (p : List AV) => ((AV.list (1 : Nat) p) : AV)) (tuple_sorted_B l o) (XF Tryd.prog tuple_sorted_B_E1 Tryd.f37 (Tryd.f37.body.getD .skip) [AV.list (1 : Nat) l, AV.func (38 : FuncId) [AV.eptr (1 : Nat) [AV.list (2 : Nat) o] (0 : Nat) (0 : Nat)]]) := by
  have h : XF Tryd.prog tuple_sorted_B_E1 Tryd.f37 (Tryd.f37.body.getD .skip) [AV.list (1 : Nat) l, AV.func (38 : FuncId) [AV.eptr (1 : Nat) [AV.list (2 : Nat) o] (0 : Nat) (0 : Nat)]] = tuple_sorted_B_t l o none (fun (p : List AV) => some ((AV.list (1 : Nat) p) : AV)) := by kernel_rfl
  rw [h]; unfold tuple_sorted_B tuple_sorted_B_t; repeat' (first | exact Enc.none | exact Enc.some rfl | refine Enc.br ?_ ?_)
noncomputable def tuple_sorted_B_o : List AV → Option (Bool × AV) := ocOf (sCons (sList (1 : Nat) pAny) (sCons (sEq (pFunc (38 : FuncId) (pCons (pEptr (1 : Nat) (0 : Nat) (0 : Nat) (pCons (pList (2 : Nat) pAny) pNil)) pNil))) sNil)) fun (l, (((o, _), _), _)) => ((tuple_sorted_B l o).isSome, (AV.list (1 : Nat) ((tuple_sorted_B l o).getD [])))
theorem tuple_sorted_B_c : OcOk Tryd.prog ITryd 37 (tuple_sorted_B_o) := ocOk_of fun vv rr hh => by
  obtain ⟨l, ⟨⟨⟨o, _⟩, _⟩, _⟩⟩ := vv
  obtain ⟨hh1, hh2⟩ := Prod.mk.inj hh
  refine good_pin (p := tuple_sorted_B_E1.pin) (good_XF mxTryd (inv0Ok Tryd.prog _) rfl tuple_sorted_B_E1_ok Tryd.func37 rfl (by kernel_rfl) tuple_sorted_B_E1_lk37 ((tuple_sorted_B_x _ _ _ (getD_of_isSome (d := []) hh1)).trans ?_))
  exact congrArg some hh2


noncomputable def EL6_7 : Env := EL6_6.with 37 tuple_sorted_B_o

theorem EL6_7_ok : OrcOk Tryd.prog ITryd EL6_7 := EL6_6_ok.with tuple_sorted_B_c

/-- The environment of bitemporal/tuple.Order: its loops so far. -/

noncomputable def tuple_Order_E0 : Env := EL6_7.fn 8 0 (lsOf []) (lpsOf [])

theorem tuple_Order_E0_ok : OrcOk Tryd.prog (ITryd.at 0) tuple_Order_E0 := EL6_7_ok.fn

theorem tuple_Order_E0_lk17 : LoOk Tryd.prog (ITryd.at tuple_Order_E0.pin) tuple_Order_E0 (Tryd.f17.body.getD .skip) := loOk_nil (by kernel_rfl)

/- 3 nodes -/
noncomputable def tuple_Order_t {T : Type} (l : List AV) (o : List AV) (δ : T) (κ : List AV → T) : T := br ((tuple_sorted_B l o).isSome) (κ ((tuple_sorted_B l o).getD [])) (δ)
noncomputable def tuple_Order (l : List AV) (o : List AV) : Option (List AV) := tuple_Order_t l o none some
theorem tuple_Order_x (l : List AV) (o : List AV) : Enc (fun (p : List AV) => ((AV.list (1 : Nat) p) : AV)) (tuple_Order l o) (XF Tryd.prog tuple_Order_E0 Tryd.f17 (Tryd.f17.body.getD .skip) [AV.list (1 : Nat) l, AV.list (2 : Nat) o]) := by
  have h : XF Tryd.prog tuple_Order_E0 Tryd.f17 (Tryd.f17.body.getD .skip) [AV.list (1 : Nat) l, AV.list (2 : Nat) o] = tuple_Order_t l o none (fun (p : List AV) => some ((AV.list (1 : Nat) p) : AV)) := by kernel_rfl
  rw [h]; unfold tuple_Order tuple_Order_t; repeat' (first | exact Enc.none | exact Enc.some rfl | refine Enc.br ?_ ?_)
noncomputable def tuple_Order_o : List AV → Option (Bool × AV) := ocOf (sCons (sList (1 : Nat) pAny) (sCons (sList (2 : Nat) pAny) sNil)) fun (l, (o, _)) => ((tuple_Order l o).isSome, (AV.list (1 : Nat) ((tuple_Order l o).getD [])))
theorem tuple_Order_c : OcOk Tryd.prog ITryd 17 (tuple_Order_o) := ocOk_of fun vv rr hh => by
  obtain ⟨l, ⟨o, _⟩⟩ := vv
  obtain ⟨hh1, hh2⟩ := Prod.mk.inj hh
  refine good_pin (p := tuple_Order_E0.pin) (good_XF mxTryd (inv0Ok Tryd.prog _) rfl tuple_Order_E0_ok Tryd.func17 rfl (by kernel_rfl) tuple_Order_E0_lk17 ((tuple_Order_x _ _ _ (getD_of_isSome (d := []) hh1)).trans ?_))
  exact congrArg some hh2


noncomputable def EL6_8 : Env := EL6_7.with 17 tuple_Order_o

theorem EL6_8_ok : OrcOk Tryd.prog ITryd EL6_8 := EL6_7_ok.with tuple_Order_c

noncomputable abbrev EL6 : Env := EL6_8

theorem EL6_ok : OrcOk Tryd.prog ITryd EL6 := EL6_8_ok

end Go.Sim.M
