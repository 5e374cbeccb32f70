/- Functions of the program as the executor found them: printed by program, checked by the kernel. -/
import Derived.Test.YtlapjnnkblbhdaaDoorL7
set_option linter.unusedVariables false
set_option linter.unusedSimpArgs false
set_option maxRecDepth 100000
namespace Go.Sim.M
open Go.RowKit Go.Proofs

/-- The environment of bitemporal/tuple.sorted bitemporal/api.Value : its loops so far. -/

noncomputable def tuple_sorted_AM_E0 : Env := EL7.fn 27 0 (lsOf [22]) (lpsOf [])

theorem tuple_sorted_AM_E0_ok : OrcOk Tryd.prog (ITryd.at 0) tuple_sorted_AM_E0 := EL7_ok.fn

theorem tuple_sorted_AM_E0_lk37_0 : LoOk Tryd.prog (ITryd.at tuple_sorted_AM_E0.pin) tuple_sorted_AM_E0 (loopAt Tryd.f37 0) := loOk_nil (by kernel_rfl)

/- 11 nodes -/
noncomputable def tuple_sorted_AM_l0_t {T : Type} (t11 : List AV) (t12 : Int) (out_n : Nat) (t13 : Int) (out_xs : List AV) (δ : T) (κl : (Nat × Int × List AV) → T) (κr : (Nat × List AV) → T) : T := br (decide (t13 < t12)) (br (decide ((0 : Int) ≤ t13) && decide (t13 < (↑t11.length : Int))) (br (decide (t13.toNat < t11.length) && hasSh1 (Sh.list (3 : Nat)) ((t11.getD t13.toNat AV.top).cells.getD (0 : Nat) AV.top)) (br (decide (((t11.getD t13.toNat AV.top).cells.getD (0 : Nat) AV.top).toList.length ≤ (4398046511104 : Nat))) (br (out_n == out_xs.length && (decide ((out_n + (1 : Nat)) * (24 : Nat) ≤ (140737488355328 : Nat)) && decide (out_n + (1 : Nat) ≤ (4611686018427387904 : Nat)))) (κl (out_n + (1 : Nat), IntKind.i64.wrap (t13 + (1 : Int)), out_xs ++ [AV.list (3 : Nat) ((t11.getD t13.toNat AV.top).cells.getD (0 : Nat) AV.top).toList])) (δ)) (δ)) (δ)) (δ)) (κr (out_n, out_xs))
noncomputable def tuple_sorted_AM_l0_step (t11 : List AV) (t12 : Int) : (Nat × Int × List AV) → Option ((Nat × Int × List AV) ⊕ (Nat × List AV)) := fun (out_n, t13, out_xs) => tuple_sorted_AM_l0_t t11 t12 out_n t13 out_xs none (fun s => some (.inl s)) (fun p => some (.inr p))
noncomputable def tuple_sorted_AM_l0_L (t11 : List AV) (t12 : Int) : (Nat × Int × List AV) → List AV × List Box := fun (out_n, t13, out_xs) => ([AV.func (10 : Nat) [], AV.osl 0 0 0 out_n, AV.list (1 : Nat) t11, AV.int IntKind.i64 t12, AV.int IntKind.i64 t13], [⟨0, (1 : Nat), (22 : Nat), out_xs, false, true⟩])
noncomputable def tuple_sorted_AM_l0_out (t11 : List AV) (t12 : Int) : (Nat × List AV) → LR := fun p => (.leaf (Exit.exit (0 : Nat)) [AV.func (10 : Nat) [], AV.osl 0 0 0 p.1] [⟨0, (1 : Nat), (22 : Nat), p.2, false, true⟩])
noncomputable abbrev tuple_sorted_AM_l0_X (vals : List AV) (H : List Box) := XR Tryd.prog tuple_sorted_AM_E0 [1, 5, 11, 12, 13] [1, 5] [(5, 1, 22)] (loopAt Tryd.f37 0) vals H
theorem tuple_sorted_AM_l0_r (t11 : List AV) (t12 : Int) (s : Nat × Int × List AV) : Enc (encR (tuple_sorted_AM_l0_L t11 t12) (tuple_sorted_AM_l0_out t11 t12)) (tuple_sorted_AM_l0_step t11 t12 s) (tuple_sorted_AM_l0_X (tuple_sorted_AM_l0_L t11 t12 s).1 (tuple_sorted_AM_l0_L t11 t12 s).2) := by
  obtain ⟨out_n, t13, out_xs⟩ := s
  have h : tuple_sorted_AM_l0_X (tuple_sorted_AM_l0_L t11 t12 (out_n, t13, out_xs)).1 (tuple_sorted_AM_l0_L t11 t12 (out_n, t13, out_xs)).2 = tuple_sorted_AM_l0_t t11 t12 out_n t13 out_xs none (fun s => some (encR (tuple_sorted_AM_l0_L t11 t12) (tuple_sorted_AM_l0_out t11 t12) (.inl s))) (fun p => some (encR (tuple_sorted_AM_l0_L t11 t12) (tuple_sorted_AM_l0_out t11 t12) (.inr p))) := by kernel_rfl
  rw [h]; unfold tuple_sorted_AM_l0_step tuple_sorted_AM_l0_t; repeat' (first | exact Enc.none | exact Enc.some rfl | refine Enc.br ?_ ?_)
noncomputable def tuple_sorted_AM_l0_lp : Lp := lpOf [1, 5, 11, 12, 13] [1, 5] [(5, 1, 22)] (pCons (pFunc (10 : Nat) pNil) (pCons (pOsl (0 : Nat) (0 : Nat) (0 : Nat)) (pCons (pList (1 : Nat) pAny) (pCons (pInt IntKind.i64) (pCons (pInt IntKind.i64) pNil))))) (pCons (pBox (0 : Nat) (1 : Nat) (22 : Nat) false true pAny) pNil) fun (_, (out_n, (t11, (t12, (t13, _))))) (out_xs, _) => ((Iter (tuple_sorted_AM_l0_step t11 t12) (out_n, t13, out_xs)).isSome, tuple_sorted_AM_l0_out t11 t12 ((Iter (tuple_sorted_AM_l0_step t11 t12) (out_n, t13, out_xs)).getD (0, [])))
theorem tuple_sorted_AM_l0_lok : LoopOk Tryd.prog (ITryd.at tuple_sorted_AM_E0.pin) tuple_sorted_AM_E0.nt (loopAt Tryd.f37 0) tuple_sorted_AM_l0_lp := lok_of fun vv bb rr hh => by
  obtain ⟨_, ⟨out_n, ⟨t11, ⟨t12, ⟨t13, _⟩⟩⟩⟩⟩ := vv
  obtain ⟨out_xs, _⟩ := bb
  obtain ⟨hh1, rfl⟩ := Prod.mk.inj hh
  exact loop_of_XR mxTryd (inv0Ok Tryd.prog _) rfl tuple_sorted_AM_E0_ok tuple_sorted_AM_E0_lk37_0 (tuple_sorted_AM_l0_L t11 t12) (tuple_sorted_AM_l0_out t11 t12) (fun p => by simp only [tuple_sorted_AM_l0_out, LR.eval]; first | (simp; done) | (repeat' split <;> simp)) (tuple_sorted_AM_l0_r t11 t12) (s := (out_n, t13, out_xs)) (getD_of_isSome hh1)


/-- The environment of bitemporal/tuple.sorted bitemporal/api.Value : its loops so far. -/

noncomputable def tuple_sorted_AM_E1 : Env := EL7.fn 27 0 (lsOf [22]) (lpsOf [(3, tuple_sorted_AM_l0_lp)])

theorem tuple_sorted_AM_E1_ok : OrcOk Tryd.prog (ITryd.at 0) tuple_sorted_AM_E1 := EL7_ok.fn

theorem tuple_sorted_AM_E1_lk37 : LoOk Tryd.prog (ITryd.at tuple_sorted_AM_E1.pin) tuple_sorted_AM_E1 (Tryd.f37.body.getD .skip) := loOk_all (ls := [loopAt Tryd.f37 0]) (by kernel_rfl) (fun l hl lp hs => by
  simp only [List.mem_cons, List.not_mem_nil, or_false] at hl
  rcases hl with rfl
  · rw [show tuple_sorted_AM_E1.lp (codeId (loopAt Tryd.f37 0)) = some tuple_sorted_AM_l0_lp by kernel_rfl] at hs
    simp only [Option.some.injEq] at hs; subst hs; exact tuple_sorted_AM_l0_lok)

/- 7 nodes -/
noncomputable def tuple_sorted_AM_v2 (l : List AV) : Nat × List AV := (Iter (tuple_sorted_AM_l0_step l (↑l.length : Int)) ((0 : Nat), (0 : Int), [])).getD ((0 : Nat), [])
noncomputable def tuple_sorted_AM_v1 (l : List AV) : Nat := (tuple_sorted_AM_v2 l).fst
noncomputable def tuple_sorted_AM_v0 (l : List AV) : Option (List AV) := slices_SortStableFunc_A (tuple_sorted_AM_v1 l) (tuple_sorted_AM_v2 l).snd
noncomputable def tuple_sorted_AM_t {T : Type} (l : List AV) (δ : T) (κ : Nat × List AV → T) : T := br (decide ((24 : Int) * (↑l.length : Int) ≤ (281474976710656 : Int)) && decide ((↑l.length : Int) ≤ (4611686018427387904 : Int))) (br ((Iter (tuple_sorted_AM_l0_step l (↑l.length : Int)) ((0 : Nat), (0 : Int), [])).isSome) (br ((tuple_sorted_AM_v0 l).isSome) (κ (tuple_sorted_AM_v1 l, (tuple_sorted_AM_v0 l).getD [])) (δ)) (δ)) (δ)
noncomputable def tuple_sorted_AM (l : List AV) : Option (Nat × List AV) := tuple_sorted_AM_t l none some
theorem tuple_sorted_AM_x (l : List AV) : Enc (fun (p : Nat × List AV) => (((AV.osl 0 0 0 p.1, ([⟨0, (1 : Nat), (22 : Nat), p.2, false, true⟩] : List Box))) : (AV × List Box))) (tuple_sorted_AM l) (XFM Tryd.prog tuple_sorted_AM_E1 Tryd.f37 (Tryd.f37.body.getD .skip) [AV.list (1 : Nat) l, AV.func (10 : FuncId) []] []) := by
  have h : XFM Tryd.prog tuple_sorted_AM_E1 Tryd.f37 (Tryd.f37.body.getD .skip) [AV.list (1 : Nat) l, AV.func (10 : FuncId) []] [] = tuple_sorted_AM_t l none (fun (p : Nat × List AV) => some (((AV.osl 0 0 0 p.1, ([⟨0, (1 : Nat), (22 : Nat), p.2, false, true⟩] : List Box))) : (AV × List Box))) := by kernel_rfl
  rw [h]; unfold tuple_sorted_AM tuple_sorted_AM_t; repeat' (first | exact Enc.none | exact Enc.some rfl | refine Enc.br ?_ ?_)
noncomputable def tuple_sorted_AM_o : List AV → List Box → Option (Bool × AV × List Box) := omOf (sCons (sList (1 : Nat) pAny) (sCons (sEq (pFunc (10 : FuncId) pNil)) sNil)) pNil fun (l, (_, _)) _ => ((tuple_sorted_AM l).isSome, ((AV.osl 0 0 0 ((tuple_sorted_AM l).getD (0, [])).1, ([⟨0, (1 : Nat), (22 : Nat), ((tuple_sorted_AM l).getD (0, [])).2, false, true⟩] : List Box))))
theorem tuple_sorted_AM_c : OmOk Tryd.prog ITryd 37 (tuple_sorted_AM_o) := omOk_of fun vv bb rr hh' hh => by
  obtain ⟨l, ⟨_, _⟩⟩ := vv
  obtain ⟨hh1, hh2⟩ := Prod.mk.inj hh
  refine goodM_pin (p := tuple_sorted_AM_E1.pin) (goodM_XFM mxTryd (inv0Ok Tryd.prog _) rfl tuple_sorted_AM_E1_ok rfl Tryd.func37 rfl (by kernel_rfl) tuple_sorted_AM_E1_lk37 ((tuple_sorted_AM_x _ _ (getD_of_isSome (d := (0, [])) hh1)).trans ?_))
  exact congrArg some hh2


noncomputable def EL8_1 : Env := EL7.withM 37 tuple_sorted_AM_o

theorem EL8_1_ok : OrcOk Tryd.prog ITryd EL8_1 := EL7_ok.withM tuple_sorted_AM_c

/-- The environment of bitemporal/tuple.Sort: its loops so far. -/

noncomputable def tuple_Sort_M_E0 : Env := EL8_1.fn 5 0 (lsOf [22]) (lpsOf [])

theorem tuple_Sort_M_E0_ok : OrcOk Tryd.prog (ITryd.at 0) tuple_Sort_M_E0 := EL8_1_ok.fn

theorem tuple_Sort_M_E0_lk23 : LoOk Tryd.prog (ITryd.at tuple_Sort_M_E0.pin) tuple_Sort_M_E0 (Tryd.f23.body.getD .skip) := loOk_nil (by kernel_rfl)

/- 3 nodes -/
noncomputable def tuple_Sort_M_t {T : Type} (l : List AV) (δ : T) (κ : Nat × List AV → T) : T := br ((tuple_sorted_AM l).isSome) (κ (((tuple_sorted_AM l).getD ((0 : Nat), [])).fst, ((tuple_sorted_AM l).getD ((0 : Nat), [])).snd)) (δ)
noncomputable def tuple_Sort_M (l : List AV) : Option (Nat × List AV) := tuple_Sort_M_t l none some
theorem tuple_Sort_M_x (l : List AV) : Enc (fun (p : Nat × List AV) => (((AV.osl 0 0 0 p.1, ([⟨0, (1 : Nat), (22 : Nat), p.2, false, true⟩] : List Box))) : (AV × List Box))) (tuple_Sort_M l) (XFM Tryd.prog tuple_Sort_M_E0 Tryd.f23 (Tryd.f23.body.getD .skip) [AV.list (1 : Nat) l] []) := by
  have h : XFM Tryd.prog tuple_Sort_M_E0 Tryd.f23 (Tryd.f23.body.getD .skip) [AV.list (1 : Nat) l] [] = tuple_Sort_M_t l none (fun (p : Nat × List AV) => some (((AV.osl 0 0 0 p.1, ([⟨0, (1 : Nat), (22 : Nat), p.2, false, true⟩] : List Box))) : (AV × List Box))) := by kernel_rfl
  rw [h]; unfold tuple_Sort_M tuple_Sort_M_t; repeat' (first | exact Enc.none | exact Enc.some rfl | refine Enc.br ?_ ?_)
noncomputable def tuple_Sort_M_o : List AV → List Box → Option (Bool × AV × List Box) := omOf (sCons (sList (1 : Nat) pAny) sNil) pNil fun (l, _) _ => ((tuple_Sort_M l).isSome, ((AV.osl 0 0 0 ((tuple_Sort_M l).getD (0, [])).1, ([⟨0, (1 : Nat), (22 : Nat), ((tuple_Sort_M l).getD (0, [])).2, false, true⟩] : List Box))))
theorem tuple_Sort_M_c : OmOk Tryd.prog ITryd 23 (tuple_Sort_M_o) := omOk_of fun vv bb rr hh' hh => by
  obtain ⟨l, _⟩ := vv
  obtain ⟨hh1, hh2⟩ := Prod.mk.inj hh
  refine goodM_pin (p := tuple_Sort_M_E0.pin) (goodM_XFM mxTryd (inv0Ok Tryd.prog _) rfl tuple_Sort_M_E0_ok rfl Tryd.func23 rfl (by kernel_rfl) tuple_Sort_M_E0_lk23 ((tuple_Sort_M_x _ _ (getD_of_isSome (d := (0, [])) hh1)).trans ?_))
  exact congrArg some hh2


noncomputable def EL8_2 : Env := EL8_1.withM 23 tuple_Sort_M_o

theorem EL8_2_ok : OrcOk Tryd.prog ITryd EL8_2 := EL8_1_ok.withM tuple_Sort_M_c

/-- The environment of slices.CompactFunc     bitemporal/api.Value,  bitemporal/api.Value : its loops so far. -/

noncomputable def slices_CompactFunc_A_E0 : Env := EL8_2.fn 66 1 (lsOf [22]) (lpsOf [])

theorem slices_CompactFunc_A_E0_ok : OrcOk Tryd.prog (ITryd.at 1) slices_CompactFunc_A_E0 := EL8_2_ok.fn

theorem slices_CompactFunc_A_E0_lk49_1 : LoOk Tryd.prog (ITryd.at slices_CompactFunc_A_E0.pin) slices_CompactFunc_A_E0 (loopAt Tryd.f49 1) := loOk_nil (by kernel_rfl)

/- 23 nodes -/
noncomputable def slices_CompactFunc_A_l1_v0 (s2_o : Nat) (k2 : Int) (s2_xs : List AV) : Bool := decide (s2_o + k2.toNat < s2_xs.length) && hasSh1 (Sh.list (3 : Nat)) ((s2_xs.getD (s2_o + k2.toNat) AV.top).cells.getD (0 : Nat) AV.top)
noncomputable def slices_CompactFunc_A_l1_t {T : Type} (s0 : Nat) (s2_o : Nat) (s2_n : Nat) (k : Int) (k2 : Int) (s2_xs : List AV) (δ : T) (κl : (Int × Int × List AV) → T) (κr : (Int × List AV) → T) : T := br (decide (k2 < (↑s2_n : Int))) (br (decide ((0 : Int) ≤ k2) && decide (k2 < (↑s2_n : Int))) (br (slices_CompactFunc_A_l1_v0 s2_o k2 s2_xs) (br (decide ((0 : Int) ≤ IntKind.i64.wrap (k2 - (1 : Int))) && decide (IntKind.i64.wrap (k2 - (1 : Int)) < (↑s2_n : Int))) (br (decide (s2_o + (IntKind.i64.wrap (k2 - (1 : Int))).toNat < s2_xs.length) && hasSh1 (Sh.list (3 : Nat)) ((s2_xs.getD (s2_o + (IntKind.i64.wrap (k2 - (1 : Int))).toNat) AV.top).cells.getD (0 : Nat) AV.top)) (br (tuple_Equal_pre ((s2_xs.getD (s2_o + k2.toNat) AV.top).cells.getD (0 : Nat) AV.top).toList ((s2_xs.getD (s2_o + (IntKind.i64.wrap (k2 - (1 : Int))).toNat) AV.top).cells.getD (0 : Nat) AV.top).toList) (br (!tuple_Equal ((s2_xs.getD (s2_o + k2.toNat) AV.top).cells.getD (0 : Nat) AV.top).toList ((s2_xs.getD (s2_o + (IntKind.i64.wrap (k2 - (1 : Int))).toNat) AV.top).cells.getD (0 : Nat) AV.top).toList) (br (decide ((0 : Int) ≤ k2) && decide (k2 < (↑s2_n : Int))) (br (slices_CompactFunc_A_l1_v0 s2_o k2 s2_xs) (br (decide ((0 : Int) ≤ k) && decide (k < (↑s0 : Int))) (br (decide ((0 : Nat) + k.toNat < s2_xs.length)) (κl (IntKind.i64.wrap (k + (1 : Int)), IntKind.i64.wrap (k2 + (1 : Int)), s2_xs.set ((0 : Nat) + k.toNat) (AV.list (3 : Nat) ((s2_xs.getD (s2_o + k2.toNat) AV.top).cells.getD (0 : Nat) AV.top).toList))) (δ)) (δ)) (δ)) (δ)) (κl (k, IntKind.i64.wrap (k2 + (1 : Int)), s2_xs))) (δ)) (δ)) (δ)) (δ)) (δ)) (κr (k, s2_xs))
noncomputable def slices_CompactFunc_A_l1_step (s0 : Nat) (s2_o : Nat) (s2_n : Nat) : (Int × Int × List AV) → Option ((Int × Int × List AV) ⊕ (Int × List AV)) := fun (k, k2, s2_xs) => slices_CompactFunc_A_l1_t s0 s2_o s2_n k k2 s2_xs none (fun s => some (.inl s)) (fun p => some (.inr p))
noncomputable def slices_CompactFunc_A_l1_L (s0 : Nat) (s2_o : Nat) (s2_n : Nat) : (Int × Int × List AV) → List AV × List Box := fun (k, k2, s2_xs) => ([AV.osl 0 0 0 s0, AV.func (12 : Nat) [], AV.int IntKind.i64 k, AV.osl 0 0 s2_o s2_n, AV.int IntKind.i64 k2], [⟨0, (1 : Nat), (22 : Nat), s2_xs, false, true⟩])
noncomputable def slices_CompactFunc_A_l1_out (s0 : Nat) (s2_o : Nat) (s2_n : Nat) : (Int × List AV) → LR := fun p => (.leaf (Exit.exit (2 : Nat)) [AV.osl 0 0 0 s0, AV.int IntKind.i64 p.1] [⟨0, (1 : Nat), (22 : Nat), p.2, false, true⟩])
noncomputable abbrev slices_CompactFunc_A_l1_X (vals : List AV) (H : List Box) := XR Tryd.prog slices_CompactFunc_A_E0 [0, 1, 5, 6, 7] [0, 5] [] (loopAt Tryd.f49 1) vals H
theorem slices_CompactFunc_A_l1_r (s0 : Nat) (s2_o : Nat) (s2_n : Nat) (s : Int × Int × List AV) : Enc (encR (slices_CompactFunc_A_l1_L s0 s2_o s2_n) (slices_CompactFunc_A_l1_out s0 s2_o s2_n)) (slices_CompactFunc_A_l1_step s0 s2_o s2_n s) (slices_CompactFunc_A_l1_X (slices_CompactFunc_A_l1_L s0 s2_o s2_n s).1 (slices_CompactFunc_A_l1_L s0 s2_o s2_n s).2) := by
  obtain ⟨k, k2, s2_xs⟩ := s
  have h : slices_CompactFunc_A_l1_X (slices_CompactFunc_A_l1_L s0 s2_o s2_n (k, k2, s2_xs)).1 (slices_CompactFunc_A_l1_L s0 s2_o s2_n (k, k2, s2_xs)).2 = slices_CompactFunc_A_l1_t s0 s2_o s2_n k k2 s2_xs none (fun s => some (encR (slices_CompactFunc_A_l1_L s0 s2_o s2_n) (slices_CompactFunc_A_l1_out s0 s2_o s2_n) (.inl s))) (fun p => some (encR (slices_CompactFunc_A_l1_L s0 s2_o s2_n) (slices_CompactFunc_A_l1_out s0 s2_o s2_n) (.inr p))) := by kernel_rfl
  rw [h]; unfold slices_CompactFunc_A_l1_step slices_CompactFunc_A_l1_t; repeat' (first | exact Enc.none | exact Enc.some rfl | refine Enc.br ?_ ?_)
noncomputable def slices_CompactFunc_A_l1_lp : Lp := lpOf [0, 1, 5, 6, 7] [0, 5] [] (pCons (pOsl (0 : Nat) (0 : Nat) (0 : Nat)) (pCons (pFunc (12 : Nat) pNil) (pCons (pInt IntKind.i64) (pCons (pOslO (0 : Nat) (0 : Nat)) (pCons (pInt IntKind.i64) pNil))))) (pCons (pBox (0 : Nat) (1 : Nat) (22 : Nat) false true pAny) pNil) fun (s0, (_, (k, ((s2_o, s2_n), (k2, _))))) (s2_xs, _) => ((Iter (slices_CompactFunc_A_l1_step s0 s2_o s2_n) (k, k2, s2_xs)).isSome, slices_CompactFunc_A_l1_out s0 s2_o s2_n ((Iter (slices_CompactFunc_A_l1_step s0 s2_o s2_n) (k, k2, s2_xs)).getD (0, [])))
theorem slices_CompactFunc_A_l1_lok : LoopOk Tryd.prog (ITryd.at slices_CompactFunc_A_E0.pin) slices_CompactFunc_A_E0.nt (loopAt Tryd.f49 1) slices_CompactFunc_A_l1_lp := lok_of fun vv bb rr hh => by
  obtain ⟨s0, ⟨_, ⟨k, ⟨⟨s2_o, s2_n⟩, ⟨k2, _⟩⟩⟩⟩⟩ := vv
  obtain ⟨s2_xs, _⟩ := bb
  obtain ⟨hh1, rfl⟩ := Prod.mk.inj hh
  exact loop_of_XR mxTryd (inv0Ok Tryd.prog _) rfl slices_CompactFunc_A_E0_ok slices_CompactFunc_A_E0_lk49_1 (slices_CompactFunc_A_l1_L s0 s2_o s2_n) (slices_CompactFunc_A_l1_out s0 s2_o s2_n) (fun p => by simp only [slices_CompactFunc_A_l1_out, LR.eval]; first | (simp; done) | (repeat' split <;> simp)) (slices_CompactFunc_A_l1_r s0 s2_o s2_n) (s := (k, k2, s2_xs)) (getD_of_isSome hh1)


/-- The environment of slices.CompactFunc     bitemporal/api.Value,  bitemporal/api.Value : its loops so far. -/

noncomputable def slices_CompactFunc_A_E1 : Env := EL8_2.fn 66 1 (lsOf [22]) (lpsOf [(9, slices_CompactFunc_A_l1_lp)])

theorem slices_CompactFunc_A_E1_ok : OrcOk Tryd.prog (ITryd.at 1) slices_CompactFunc_A_E1 := EL8_2_ok.fn

theorem slices_CompactFunc_A_E1_lk49_0 : LoOk Tryd.prog (ITryd.at slices_CompactFunc_A_E1.pin) slices_CompactFunc_A_E1 (loopAt Tryd.f49 0) := loOk_all (ls := [loopAt Tryd.f49 1]) (by kernel_rfl) (fun l hl lp hs => by
  simp only [List.mem_cons, List.not_mem_nil, or_false] at hl
  rcases hl with rfl
  · rw [show slices_CompactFunc_A_E1.lp (codeId (loopAt Tryd.f49 1)) = some slices_CompactFunc_A_l1_lp by kernel_rfl] at hs
    simp only [Option.some.injEq] at hs; subst hs; exact slices_CompactFunc_A_l1_lok)

/- 25 nodes -/
noncomputable def slices_CompactFunc_A_l0_v6 (s0 : Nat) (k : Int) (s0_xs : List AV) : Option (Int × List AV) := Iter (slices_CompactFunc_A_l1_step s0 ((0 : Nat) + k.toNat) (s0 - k.toNat)) (k, (1 : Int), s0_xs)
noncomputable def slices_CompactFunc_A_l0_v5 (s0 : Nat) (k : Int) (s0_xs : List AV) : Int × List AV := (slices_CompactFunc_A_l0_v6 s0 k s0_xs).getD ((0 : Int), [])
noncomputable def slices_CompactFunc_A_l0_v3 (s0 : Nat) (k : Int) (s0_xs : List AV) : Int := (slices_CompactFunc_A_l0_v5 s0 k s0_xs).fst
noncomputable def slices_CompactFunc_A_l0_v4 (s0 : Nat) (k : Int) (s0_xs : List AV) : List AV := (slices_CompactFunc_A_l0_v5 s0 k s0_xs).snd
noncomputable def slices_CompactFunc_A_l0_v0 (s0 : Nat) (k : Int) (s0_xs : List AV) : Bool := decide ((0 : Int) ≤ slices_CompactFunc_A_l0_v3 s0 k s0_xs) && decide (slices_CompactFunc_A_l0_v3 s0 k s0_xs ≤ (↑s0 : Int))
noncomputable def slices_CompactFunc_A_l0_v2 (s0 : Nat) (k : Int) (s0_xs : List AV) : Nat := (slices_CompactFunc_A_l0_v3 s0 k s0_xs).toNat
noncomputable def slices_CompactFunc_A_l0_v1 (s0 : Nat) (k : Int) (s0_xs : List AV) : Nat := (0 : Nat) + slices_CompactFunc_A_l0_v2 s0 k s0_xs + (s0 - slices_CompactFunc_A_l0_v2 s0 k s0_xs)
noncomputable def slices_CompactFunc_A_l0_t {T : Type} (s0 : Nat) (k : Int) (s0_xs : List AV) (δ : T) (κl : (Int × List AV) → T) (κr : (Bool × (Nat × List AV) × (List AV)) → T) : T := br (decide (k < (↑s0 : Int))) (br (decide ((0 : Int) ≤ k) && decide (k < (↑s0 : Int))) (br (decide ((0 : Nat) + k.toNat < s0_xs.length) && hasSh1 (Sh.list (3 : Nat)) ((s0_xs.getD ((0 : Nat) + k.toNat) AV.top).cells.getD (0 : Nat) AV.top)) (br (decide ((0 : Int) ≤ IntKind.i64.wrap (k - (1 : Int))) && decide (IntKind.i64.wrap (k - (1 : Int)) < (↑s0 : Int))) (br (decide ((0 : Nat) + (IntKind.i64.wrap (k - (1 : Int))).toNat < s0_xs.length) && hasSh1 (Sh.list (3 : Nat)) ((s0_xs.getD ((0 : Nat) + (IntKind.i64.wrap (k - (1 : Int))).toNat) AV.top).cells.getD (0 : Nat) AV.top)) (br (tuple_Equal_pre ((s0_xs.getD ((0 : Nat) + k.toNat) AV.top).cells.getD (0 : Nat) AV.top).toList ((s0_xs.getD ((0 : Nat) + (IntKind.i64.wrap (k - (1 : Int))).toNat) AV.top).cells.getD (0 : Nat) AV.top).toList) (br (tuple_Equal ((s0_xs.getD ((0 : Nat) + k.toNat) AV.top).cells.getD (0 : Nat) AV.top).toList ((s0_xs.getD ((0 : Nat) + (IntKind.i64.wrap (k - (1 : Int))).toNat) AV.top).cells.getD (0 : Nat) AV.top).toList) (br (decide ((0 : Int) ≤ k) && decide (k ≤ (↑s0 : Int))) (br ((slices_CompactFunc_A_l0_v6 s0 k s0_xs).isSome) (br (slices_CompactFunc_A_l0_v0 s0 k s0_xs) (br (decide (slices_CompactFunc_A_l0_v1 s0 k s0_xs ≤ (slices_CompactFunc_A_l0_v4 s0 k s0_xs).length)) (br (slices_CompactFunc_A_l0_v0 s0 k s0_xs && true) (κr (true, (slices_CompactFunc_A_l0_v2 s0 k s0_xs - (0 : Nat), List.take ((0 : Nat) + slices_CompactFunc_A_l0_v2 s0 k s0_xs) (slices_CompactFunc_A_l0_v4 s0 k s0_xs) ++ (List.replicate (s0 - slices_CompactFunc_A_l0_v2 s0 k s0_xs) AV.nils ++ List.drop (slices_CompactFunc_A_l0_v1 s0 k s0_xs) (slices_CompactFunc_A_l0_v4 s0 k s0_xs))), [])) (δ)) (δ)) (δ)) (δ)) (δ)) (κl (IntKind.i64.wrap (k + (1 : Int)), s0_xs))) (δ)) (δ)) (δ)) (δ)) (δ)) (κr (false, (0, []), (s0_xs)))
noncomputable def slices_CompactFunc_A_l0_step (s0 : Nat) : (Int × List AV) → Option ((Int × List AV) ⊕ (Bool × (Nat × List AV) × (List AV))) := fun (k, s0_xs) => slices_CompactFunc_A_l0_t s0 k s0_xs none (fun s => some (.inl s)) (fun p => some (.inr p))
noncomputable def slices_CompactFunc_A_l0_L (s0 : Nat) : (Int × List AV) → List AV × List Box := fun (k, s0_xs) => ([AV.osl 0 0 0 s0, AV.func (12 : Nat) [], AV.int IntKind.i64 k], [⟨0, (1 : Nat), (22 : Nat), s0_xs, false, true⟩])
noncomputable def slices_CompactFunc_A_l0_out (s0 : Nat) : (Bool × (Nat × List AV) × (List AV)) → LR := fun p => (.node p.1 (.leaf (Exit.ret) [AV.osl 0 0 0 s0, AV.osl 0 0 0 p.2.1.1] [⟨0, (1 : Nat), (22 : Nat), p.2.1.2, false, true⟩]) (.leaf (Exit.exit (0 : Nat)) [AV.osl 0 0 0 s0, AV.top] [⟨0, (1 : Nat), (22 : Nat), p.2.2, false, true⟩]))
noncomputable abbrev slices_CompactFunc_A_l0_X (vals : List AV) (H : List Box) := XR Tryd.prog slices_CompactFunc_A_E1 [0, 1, 5] [0, 4] [] (loopAt Tryd.f49 0) vals H
theorem slices_CompactFunc_A_l0_r (s0 : Nat) (s : Int × List AV) : Enc (encR (slices_CompactFunc_A_l0_L s0) (slices_CompactFunc_A_l0_out s0)) (slices_CompactFunc_A_l0_step s0 s) (slices_CompactFunc_A_l0_X (slices_CompactFunc_A_l0_L s0 s).1 (slices_CompactFunc_A_l0_L s0 s).2) := by
  obtain ⟨k, s0_xs⟩ := s
  have h : slices_CompactFunc_A_l0_X (slices_CompactFunc_A_l0_L s0 (k, s0_xs)).1 (slices_CompactFunc_A_l0_L s0 (k, s0_xs)).2 = slices_CompactFunc_A_l0_t s0 k s0_xs none (fun s => some (encR (slices_CompactFunc_A_l0_L s0) (slices_CompactFunc_A_l0_out s0) (.inl s))) (fun p => some (encR (slices_CompactFunc_A_l0_L s0) (slices_CompactFunc_A_l0_out s0) (.inr p))) := by kernel_rfl
  rw [h]; unfold slices_CompactFunc_A_l0_step slices_CompactFunc_A_l0_t; repeat' (first | exact Enc.none | exact Enc.some rfl | refine Enc.br ?_ ?_)
noncomputable def slices_CompactFunc_A_l0_lp : Lp := lpOf [0, 1, 5] [0, 4] [] (pCons (pOsl (0 : Nat) (0 : Nat) (0 : Nat)) (pCons (pFunc (12 : Nat) pNil) (pCons (pInt IntKind.i64) pNil))) (pCons (pBox (0 : Nat) (1 : Nat) (22 : Nat) false true pAny) pNil) fun (s0, (_, (k, _))) (s0_xs, _) => ((Iter (slices_CompactFunc_A_l0_step s0) (k, s0_xs)).isSome, slices_CompactFunc_A_l0_out s0 ((Iter (slices_CompactFunc_A_l0_step s0) (k, s0_xs)).getD (false, (0, []), [])))
theorem slices_CompactFunc_A_l0_lok : LoopOk Tryd.prog (ITryd.at slices_CompactFunc_A_E1.pin) slices_CompactFunc_A_E1.nt (loopAt Tryd.f49 0) slices_CompactFunc_A_l0_lp := lok_of fun vv bb rr hh => by
  obtain ⟨s0, ⟨_, ⟨k, _⟩⟩⟩ := vv
  obtain ⟨s0_xs, _⟩ := bb
  obtain ⟨hh1, rfl⟩ := Prod.mk.inj hh
  exact loop_of_XR mxTryd (inv0Ok Tryd.prog _) rfl slices_CompactFunc_A_E1_ok slices_CompactFunc_A_E1_lk49_0 (slices_CompactFunc_A_l0_L s0) (slices_CompactFunc_A_l0_out s0) (fun p => by simp only [slices_CompactFunc_A_l0_out, LR.eval]; first | (simp; done) | (repeat' split <;> simp)) (slices_CompactFunc_A_l0_r s0) (s := (k, s0_xs)) (getD_of_isSome hh1)


/-- The environment of slices.CompactFunc     bitemporal/api.Value,  bitemporal/api.Value : its loops so far. -/

noncomputable def slices_CompactFunc_A_E2 : Env := EL8_2.fn 66 1 (lsOf [22]) (lpsOf [(9, slices_CompactFunc_A_l1_lp), (4, slices_CompactFunc_A_l0_lp)])

theorem slices_CompactFunc_A_E2_ok : OrcOk Tryd.prog (ITryd.at 1) slices_CompactFunc_A_E2 := EL8_2_ok.fn

theorem slices_CompactFunc_A_E2_lk49 : LoOk Tryd.prog (ITryd.at slices_CompactFunc_A_E2.pin) slices_CompactFunc_A_E2 (Tryd.f49.body.getD .skip) := loOk_all (ls := [loopAt Tryd.f49 0, loopAt Tryd.f49 1]) (by kernel_rfl) (fun l hl lp hs => by
  simp only [List.mem_cons, List.not_mem_nil, or_false] at hl
  rcases hl with rfl | rfl
  · rw [show slices_CompactFunc_A_E2.lp (codeId (loopAt Tryd.f49 0)) = some slices_CompactFunc_A_l0_lp by kernel_rfl] at hs
    simp only [Option.some.injEq] at hs; subst hs; exact slices_CompactFunc_A_l0_lok
  · rw [show slices_CompactFunc_A_E2.lp (codeId (loopAt Tryd.f49 1)) = some slices_CompactFunc_A_l1_lp by kernel_rfl] at hs
    simp only [Option.some.injEq] at hs; subst hs; exact slices_CompactFunc_A_l1_lok)

/- 7 nodes -/
noncomputable def slices_CompactFunc_A_v2 (n : Nat) (xs : List AV) : Bool × (Nat × List AV) × List AV := (Iter (slices_CompactFunc_A_l0_step n) ((1 : Int), xs)).getD (false, ((0 : Nat), []), [])
noncomputable def slices_CompactFunc_A_v1 (n : Nat) (xs : List AV) : (Nat × List AV) × List AV := (slices_CompactFunc_A_v2 n xs).snd
noncomputable def slices_CompactFunc_A_v0 (n : Nat) (xs : List AV) : Nat × List AV := (slices_CompactFunc_A_v1 n xs).fst
noncomputable def slices_CompactFunc_A_t {T : Type} (n : Nat) (xs : List AV) (δ : T) (κ : Nat × List AV → T) : T := br (decide ((↑n : Int) < (2 : Int))) (κ (n, xs)) (br ((Iter (slices_CompactFunc_A_l0_step n) ((1 : Int), xs)).isSome) (br ((slices_CompactFunc_A_v2 n xs).fst) (κ ((slices_CompactFunc_A_v0 n xs).fst, (slices_CompactFunc_A_v0 n xs).snd)) (κ (n, (slices_CompactFunc_A_v1 n xs).snd))) (δ))
noncomputable def slices_CompactFunc_A (n : Nat) (xs : List AV) : Option (Nat × List AV) := slices_CompactFunc_A_t n xs none some
theorem slices_CompactFunc_A_x (n : Nat) (xs : List AV) : Enc (fun (p : Nat × List AV) => (((AV.osl 0 0 0 p.1, ([⟨0, (1 : Nat), (22 : Nat), p.2, false, true⟩] : List Box))) : (AV × List Box))) (slices_CompactFunc_A n xs) (XFM Tryd.prog slices_CompactFunc_A_E2 Tryd.f49 (Tryd.f49.body.getD .skip) [AV.osl (0 : Nat) (0 : Nat) (0 : Nat) n, AV.func (12 : FuncId) []] [{ ver := (0 : Nat), sz := (1 : Nat), ty := (22 : TypeId), xs := xs, frz := false, pm := true }]) := by
  have h : XFM Tryd.prog slices_CompactFunc_A_E2 Tryd.f49 (Tryd.f49.body.getD .skip) [AV.osl (0 : Nat) (0 : Nat) (0 : Nat) n, AV.func (12 : FuncId) []] [{ ver := (0 : Nat), sz := (1 : Nat), ty := (22 : TypeId), xs := xs, frz := false, pm := true }] = slices_CompactFunc_A_t n xs none (fun (p : Nat × List AV) => some (((AV.osl 0 0 0 p.1, ([⟨0, (1 : Nat), (22 : Nat), p.2, false, true⟩] : List Box))) : (AV × List Box))) := by kernel_rfl
  rw [h]; unfold slices_CompactFunc_A slices_CompactFunc_A_t; repeat' (first | exact Enc.none | exact Enc.some rfl | refine Enc.br ?_ ?_)
noncomputable def slices_CompactFunc_A_o : List AV → List Box → Option (Bool × AV × List Box) := omOf (sCons (sEq (pOsl (0 : Nat) (0 : Nat) (0 : Nat))) (sCons (sEq (pFunc (12 : FuncId) pNil)) sNil)) (pCons (pBox (0 : Nat) (1 : Nat) (22 : TypeId) false true pAny) pNil) fun (n, (_, _)) (xs, _) => ((slices_CompactFunc_A n xs).isSome, ((AV.osl 0 0 0 ((slices_CompactFunc_A n xs).getD (0, [])).1, ([⟨0, (1 : Nat), (22 : Nat), ((slices_CompactFunc_A n xs).getD (0, [])).2, false, true⟩] : List Box))))
theorem slices_CompactFunc_A_c : OmOk Tryd.prog ITryd 49 (slices_CompactFunc_A_o) := omOk_of fun vv bb rr hh' hh => by
  obtain ⟨n, ⟨_, _⟩⟩ := vv
  obtain ⟨xs, _⟩ := bb
  obtain ⟨hh1, hh2⟩ := Prod.mk.inj hh
  refine goodM_pin (p := slices_CompactFunc_A_E2.pin) (goodM_XFM mxTryd (inv0Ok Tryd.prog _) rfl slices_CompactFunc_A_E2_ok rfl Tryd.func49 rfl (by kernel_rfl) slices_CompactFunc_A_E2_lk49 ((slices_CompactFunc_A_x _ _ _ (getD_of_isSome (d := (0, [])) hh1)).trans ?_))
  exact congrArg some hh2


noncomputable def EL8_3 : Env := EL8_2.withM 49 slices_CompactFunc_A_o

theorem EL8_3_ok : OrcOk Tryd.prog ITryd EL8_3 := EL8_2_ok.withM slices_CompactFunc_A_c

/-- The environment of bitemporal/tuple.Distinct: its loops so far. -/

noncomputable def tuple_Distinct_E0 : Env := EL8_3.fn 6 0 (lsOf []) (lpsOf [])

theorem tuple_Distinct_E0_ok : OrcOk Tryd.prog (ITryd.at 0) tuple_Distinct_E0 := EL8_3_ok.fn

theorem tuple_Distinct_E0_lk28 : LoOk Tryd.prog (ITryd.at tuple_Distinct_E0.pin) tuple_Distinct_E0 (Tryd.f28.body.getD .skip) := loOk_nil (by kernel_rfl)

/- 7 nodes -/
noncomputable def tuple_Distinct_v2 (l : List AV) : Nat × List AV := (slices_CompactFunc_A ((tuple_Sort_M l).getD ((0 : Nat), [])).fst ((tuple_Sort_M l).getD ((0 : Nat), [])).snd).getD ((0 : Nat), [])
noncomputable def tuple_Distinct_v0 (l : List AV) : Nat := (tuple_Distinct_v2 l).fst
noncomputable def tuple_Distinct_v1 (l : List AV) : List AV := (tuple_Distinct_v2 l).snd
noncomputable def tuple_Distinct_t {T : Type} (l : List AV) (δ : T) (κ : List AV → T) : T := br ((tuple_Sort_M l).isSome) (br ((slices_CompactFunc_A ((tuple_Sort_M l).getD ((0 : Nat), [])).fst ((tuple_Sort_M l).getD ((0 : Nat), [])).snd).isSome) (br (decide ((0 : Nat) + tuple_Distinct_v0 l ≤ (tuple_Distinct_v1 l).length) && true) (κ (List.take (tuple_Distinct_v0 l) (List.drop (0 : Nat) (tuple_Distinct_v1 l)))) (δ)) (δ)) (δ)
noncomputable def tuple_Distinct (l : List AV) : Option (List AV) := tuple_Distinct_t l none some
theorem tuple_Distinct_x (l : List AV) : Enc (fun (p : List AV) => ((AV.list (1 : Nat) p) : AV)) (tuple_Distinct l) (XF Tryd.prog tuple_Distinct_E0 Tryd.f28 (Tryd.f28.body.getD .skip) [AV.list (1 : Nat) l]) := by
  have h : XF Tryd.prog tuple_Distinct_E0 Tryd.f28 (Tryd.f28.body.getD .skip) [AV.list (1 : Nat) l] = tuple_Distinct_t l none (fun (p : List AV) => some ((AV.list (1 : Nat) p) : AV)) := by kernel_rfl
  rw [h]; unfold tuple_Distinct tuple_Distinct_t; repeat' (first | exact Enc.none | exact Enc.some rfl | refine Enc.br ?_ ?_)
noncomputable def tuple_Distinct_o : List AV → Option (Bool × AV) := ocOf (sCons (sList (1 : Nat) pAny) sNil) fun (l, _) => ((tuple_Distinct l).isSome, (AV.list (1 : Nat) ((tuple_Distinct l).getD [])))
theorem tuple_Distinct_c : OcOk Tryd.prog ITryd 28 (tuple_Distinct_o) := ocOk_of fun vv rr hh => by
  obtain ⟨l, _⟩ := vv
  obtain ⟨hh1, hh2⟩ := Prod.mk.inj hh
  refine good_pin (p := tuple_Distinct_E0.pin) (good_XF mxTryd (inv0Ok Tryd.prog _) rfl tuple_Distinct_E0_ok Tryd.func28 rfl (by kernel_rfl) tuple_Distinct_E0_lk28 ((tuple_Distinct_x _ _ (getD_of_isSome (d := []) hh1)).trans ?_))
  exact congrArg some hh2


noncomputable def EL8_4 : Env := EL8_3.with 28 tuple_Distinct_o

theorem EL8_4_ok : OrcOk Tryd.prog ITryd EL8_4 := EL8_3_ok.with tuple_Distinct_c

/-- The environment of bitemporal/bitemporalref08.Distinct: its loops so far. -/

noncomputable def ref08_Distinct_E0 : Env := EL8_4.fn 38 0 (lsOf []) (lpsOf [])

theorem ref08_Distinct_E0_ok : OrcOk Tryd.prog (ITryd.at 0) ref08_Distinct_E0 := EL8_4_ok.fn

theorem ref08_Distinct_E0_lk29_0 : LoOk Tryd.prog (ITryd.at ref08_Distinct_E0.pin) ref08_Distinct_E0 (loopAt Tryd.f29 0) := loOk_nil (by kernel_rfl)

/- 29 nodes -/
noncomputable def ref08_Distinct_l0_v0 (all : List AV) (i : Int) : Bool := decide (i.toNat < all.length) && hasSh1 (Sh.list (3 : Nat)) ((all.getD i.toNat AV.top).cells.getD (0 : Nat) AV.top)
noncomputable def ref08_Distinct_l0_v1 (all : List AV) (i : Int) : Bool := decide ((0 : Int) ≤ i) && decide (i < (↑all.length : Int))
noncomputable def ref08_Distinct_l0_t {T : Type} (all : List AV) (out_n : Nat) (i : Int) (out_xs : List AV) (δ : T) (κl : (Nat × Int × List AV) → T) (κr : (Nat × List AV) → T) : T := br (decide (i < (↑all.length : Int))) (br (i == (0 : Int)) (br (ref08_Distinct_l0_v1 all i) (br (ref08_Distinct_l0_v0 all i) (br (out_n == out_xs.length && (decide ((out_n + (1 : Nat)) * (24 : Nat) ≤ (140737488355328 : Nat)) && decide (out_n + (1 : Nat) ≤ (4611686018427387904 : Nat)))) (κl (out_n + (1 : Nat), IntKind.i64.wrap (i + (1 : Int)), out_xs ++ [AV.list (3 : Nat) ((all.getD i.toNat AV.top).cells.getD (0 : Nat) AV.top).toList])) (δ)) (δ)) (δ)) (br (decide ((0 : Int) ≤ IntKind.i64.wrap (i - (1 : Int))) && decide (IntKind.i64.wrap (i - (1 : Int)) < (↑all.length : Int))) (br (decide ((IntKind.i64.wrap (i - (1 : Int))).toNat < all.length) && hasSh1 (Sh.list (3 : Nat)) ((all.getD (IntKind.i64.wrap (i - (1 : Int))).toNat AV.top).cells.getD (0 : Nat) AV.top)) (br (ref08_Distinct_l0_v1 all i) (br (ref08_Distinct_l0_v0 all i) (br (ref08_Equal_pre ((all.getD (IntKind.i64.wrap (i - (1 : Int))).toNat AV.top).cells.getD (0 : Nat) AV.top).toList ((all.getD i.toNat AV.top).cells.getD (0 : Nat) AV.top).toList) (br (!ref08_Equal ((all.getD (IntKind.i64.wrap (i - (1 : Int))).toNat AV.top).cells.getD (0 : Nat) AV.top).toList ((all.getD i.toNat AV.top).cells.getD (0 : Nat) AV.top).toList) (br (ref08_Distinct_l0_v1 all i) (br (ref08_Distinct_l0_v0 all i) (br (out_n == out_xs.length && (decide ((out_n + (1 : Nat)) * (24 : Nat) ≤ (140737488355328 : Nat)) && decide (out_n + (1 : Nat) ≤ (4611686018427387904 : Nat)))) (κl (out_n + (1 : Nat), IntKind.i64.wrap (i + (1 : Int)), out_xs ++ [AV.list (3 : Nat) ((all.getD i.toNat AV.top).cells.getD (0 : Nat) AV.top).toList])) (δ)) (δ)) (δ)) (κl (out_n, IntKind.i64.wrap (i + (1 : Int)), out_xs))) (δ)) (δ)) (δ)) (δ)) (δ))) (κr (out_n, out_xs))
noncomputable def ref08_Distinct_l0_step (all : List AV) : (Nat × Int × List AV) → Option ((Nat × Int × List AV) ⊕ (Nat × List AV)) := fun (out_n, i, out_xs) => ref08_Distinct_l0_t all out_n i out_xs none (fun s => some (.inl s)) (fun p => some (.inr p))
noncomputable def ref08_Distinct_l0_L (all : List AV) : (Nat × Int × List AV) → List AV × List Box := fun (out_n, i, out_xs) => ([AV.list (1 : Nat) all, AV.osl 0 0 0 out_n, AV.int IntKind.i64 i], [⟨0, (1 : Nat), (22 : Nat), out_xs, false, true⟩])
noncomputable def ref08_Distinct_l0_out (all : List AV) : (Nat × List AV) → LR := fun p => (.leaf (Exit.exit (0 : Nat)) [AV.osl 0 0 0 p.1] [⟨0, (1 : Nat), (22 : Nat), p.2, false, true⟩])
noncomputable abbrev ref08_Distinct_l0_X (vals : List AV) (H : List Box) := XR Tryd.prog ref08_Distinct_E0 [3, 4, 5] [4] [(4, 1, 22)] (loopAt Tryd.f29 0) vals H
theorem ref08_Distinct_l0_r (all : List AV) (s : Nat × Int × List AV) : Enc (encR (ref08_Distinct_l0_L all) (ref08_Distinct_l0_out all)) (ref08_Distinct_l0_step all s) (ref08_Distinct_l0_X (ref08_Distinct_l0_L all s).1 (ref08_Distinct_l0_L all s).2) := by
  obtain ⟨out_n, i, out_xs⟩ := s
  have h : ref08_Distinct_l0_X (ref08_Distinct_l0_L all (out_n, i, out_xs)).1 (ref08_Distinct_l0_L all (out_n, i, out_xs)).2 = ref08_Distinct_l0_t all out_n i out_xs none (fun s => some (encR (ref08_Distinct_l0_L all) (ref08_Distinct_l0_out all) (.inl s))) (fun p => some (encR (ref08_Distinct_l0_L all) (ref08_Distinct_l0_out all) (.inr p))) := by kernel_rfl
  rw [h]; unfold ref08_Distinct_l0_step ref08_Distinct_l0_t; repeat' (first | exact Enc.none | exact Enc.some rfl | refine Enc.br ?_ ?_)
noncomputable def ref08_Distinct_l0_lp : Lp := lpOf [3, 4, 5] [4] [(4, 1, 22)] (pCons (pList (1 : Nat) pAny) (pCons (pOsl (0 : Nat) (0 : Nat) (0 : Nat)) (pCons (pInt IntKind.i64) pNil))) (pCons (pBox (0 : Nat) (1 : Nat) (22 : Nat) false true pAny) pNil) fun (all, (out_n, (i, _))) (out_xs, _) => ((Iter (ref08_Distinct_l0_step all) (out_n, i, out_xs)).isSome, ref08_Distinct_l0_out all ((Iter (ref08_Distinct_l0_step all) (out_n, i, out_xs)).getD (0, [])))
theorem ref08_Distinct_l0_lok : LoopOk Tryd.prog (ITryd.at ref08_Distinct_E0.pin) ref08_Distinct_E0.nt (loopAt Tryd.f29 0) ref08_Distinct_l0_lp := lok_of fun vv bb rr hh => by
  obtain ⟨all, ⟨out_n, ⟨i, _⟩⟩⟩ := vv
  obtain ⟨out_xs, _⟩ := bb
  obtain ⟨hh1, rfl⟩ := Prod.mk.inj hh
  exact loop_of_XR mxTryd (inv0Ok Tryd.prog _) rfl ref08_Distinct_E0_ok ref08_Distinct_E0_lk29_0 (ref08_Distinct_l0_L all) (ref08_Distinct_l0_out all) (fun p => by simp only [ref08_Distinct_l0_out, LR.eval]; first | (simp; done) | (repeat' split <;> simp)) (ref08_Distinct_l0_r all) (s := (out_n, i, out_xs)) (getD_of_isSome hh1)


/-- The environment of bitemporal/bitemporalref08.Distinct: its loops so far. -/

noncomputable def ref08_Distinct_E1 : Env := EL8_4.fn 38 0 (lsOf []) (lpsOf [(4, ref08_Distinct_l0_lp)])

theorem ref08_Distinct_E1_ok : OrcOk Tryd.prog (ITryd.at 0) ref08_Distinct_E1 := EL8_4_ok.fn

theorem ref08_Distinct_E1_lk29 : LoOk Tryd.prog (ITryd.at ref08_Distinct_E1.pin) ref08_Distinct_E1 (Tryd.f29.body.getD .skip) := loOk_all (ls := [loopAt Tryd.f29 0]) (by kernel_rfl) (fun l hl lp hs => by
  simp only [List.mem_cons, List.not_mem_nil, or_false] at hl
  rcases hl with rfl
  · rw [show ref08_Distinct_E1.lp (codeId (loopAt Tryd.f29 0)) = some ref08_Distinct_l0_lp by kernel_rfl] at hs
    simp only [Option.some.injEq] at hs; subst hs; exact ref08_Distinct_l0_lok)

/- 7 nodes -/
noncomputable def ref08_Distinct_v2 (l : List AV) : Nat × List AV := (Iter (ref08_Distinct_l0_step ((ref08_Sort l).getD [])) ((0 : Nat), (0 : Int), [])).getD ((0 : Nat), [])
noncomputable def ref08_Distinct_v0 (l : List AV) : List AV := (ref08_Distinct_v2 l).snd
noncomputable def ref08_Distinct_v1 (l : List AV) : Nat := (ref08_Distinct_v2 l).fst
noncomputable def ref08_Distinct_t {T : Type} (l : List AV) (δ : T) (κ : List AV → T) : T := br ((ref08_Sort l).isSome) (br ((Iter (ref08_Distinct_l0_step ((ref08_Sort l).getD [])) ((0 : Nat), (0 : Int), [])).isSome) (br (decide ((0 : Nat) + ref08_Distinct_v1 l ≤ (ref08_Distinct_v0 l).length) && true) (κ (List.take (ref08_Distinct_v1 l) (List.drop (0 : Nat) (ref08_Distinct_v0 l)))) (δ)) (δ)) (δ)
noncomputable def ref08_Distinct (l : List AV) : Option (List AV) := ref08_Distinct_t l none some
theorem ref08_Distinct_x (l : List AV) : Enc (fun (p : List AV) => ((AV.list (1 : Nat) p) : AV)) (ref08_Distinct l) (XF Tryd.prog ref08_Distinct_E1 Tryd.f29 (Tryd.f29.body.getD .skip) [AV.list (1 : Nat) l]) := by
  have h : XF Tryd.prog ref08_Distinct_E1 Tryd.f29 (Tryd.f29.body.getD .skip) [AV.list (1 : Nat) l] = ref08_Distinct_t l none (fun (p : List AV) => some ((AV.list (1 : Nat) p) : AV)) := by kernel_rfl
  rw [h]; unfold ref08_Distinct ref08_Distinct_t; repeat' (first | exact Enc.none | exact Enc.some rfl | refine Enc.br ?_ ?_)
noncomputable def ref08_Distinct_o : List AV → Option (Bool × AV) := ocOf (sCons (sList (1 : Nat) pAny) sNil) fun (l, _) => ((ref08_Distinct l).isSome, (AV.list (1 : Nat) ((ref08_Distinct l).getD [])))
theorem ref08_Distinct_c : OcOk Tryd.prog ITryd 29 (ref08_Distinct_o) := ocOk_of fun vv rr hh => by
  obtain ⟨l, _⟩ := vv
  obtain ⟨hh1, hh2⟩ := Prod.mk.inj hh
  refine good_pin (p := ref08_Distinct_E1.pin) (good_XF mxTryd (inv0Ok Tryd.prog _) rfl ref08_Distinct_E1_ok Tryd.func29 rfl (by kernel_rfl) ref08_Distinct_E1_lk29 ((ref08_Distinct_x _ _ (getD_of_isSome (d := []) hh1)).trans ?_))
  exact congrArg some hh2


noncomputable def EL8_5 : Env := EL8_4.with 29 ref08_Distinct_o

theorem EL8_5_ok : OrcOk Tryd.prog ITryd EL8_5 := EL8_4_ok.with ref08_Distinct_c

/-- The environment of bitemporal/bitemporalref08.Same: its loops so far. -/

noncomputable def ref08_Same_E0 : Env := EL8_5.fn 10 0 (lsOf []) (lpsOf [])

theorem ref08_Same_E0_ok : OrcOk Tryd.prog (ITryd.at 0) ref08_Same_E0 := EL8_5_ok.fn

theorem ref08_Same_E0_lk30 : LoOk Tryd.prog (ITryd.at ref08_Same_E0.pin) ref08_Same_E0 (Tryd.f30.body.getD .skip) := loOk_nil (by kernel_rfl)

/- 7 nodes -/
noncomputable def ref08_Same_t {T : Type} (a : List AV) (b : List AV) (δ : T) (κ : Bool → T) : T := br ((ref08_Sort a).isSome) (br ((ref08_Sort b).isSome) (br (ref08_List_pre ((ref08_Sort a).getD []) ((ref08_Sort b).getD [])) (κ (ref08_List ((ref08_Sort a).getD []) ((ref08_Sort b).getD []))) (δ)) (δ)) (δ)
noncomputable def ref08_Same (a : List AV) (b : List AV) : Option (Bool) := ref08_Same_t a b none some
theorem ref08_Same_x (a : List AV) (b : List AV) : Enc (fun (p : Bool) => ((AV.bool p) : AV)) (ref08_Same a b) (XF Tryd.prog ref08_Same_E0 Tryd.f30 (Tryd.f30.body.getD .skip) [AV.list (1 : Nat) a, AV.list (1 : Nat) b]) := by
  have h : XF Tryd.prog ref08_Same_E0 Tryd.f30 (Tryd.f30.body.getD .skip) [AV.list (1 : Nat) a, AV.list (1 : Nat) b] = ref08_Same_t a b none (fun (p : Bool) => some ((AV.bool p) : AV)) := by kernel_rfl
  rw [h]; unfold ref08_Same ref08_Same_t; repeat' (first | exact Enc.none | exact Enc.some rfl | refine Enc.br ?_ ?_)
noncomputable def ref08_Same_o : List AV → Option (Bool × AV) := ocOf (sCons (sList (1 : Nat) pAny) (sCons (sList (1 : Nat) pAny) sNil)) fun (a, (b, _)) => ((ref08_Same a b).isSome, (AV.bool ((ref08_Same a b).getD false)))
theorem ref08_Same_c : OcOk Tryd.prog ITryd 30 (ref08_Same_o) := ocOk_of fun vv rr hh => by
  obtain ⟨a, ⟨b, _⟩⟩ := vv
  obtain ⟨hh1, hh2⟩ := Prod.mk.inj hh
  refine good_pin (p := ref08_Same_E0.pin) (good_XF mxTryd (inv0Ok Tryd.prog _) rfl ref08_Same_E0_ok Tryd.func30 rfl (by kernel_rfl) ref08_Same_E0_lk30 ((ref08_Same_x _ _ _ (getD_of_isSome (d := false) hh1)).trans ?_))
  exact congrArg some hh2


noncomputable def EL8_6 : Env := EL8_5.with 30 ref08_Same_o

theorem EL8_6_ok : OrcOk Tryd.prog ITryd EL8_6 := EL8_5_ok.with ref08_Same_c

noncomputable abbrev EL8 : Env := EL8_6

theorem EL8_ok : OrcOk Tryd.prog ITryd EL8 := EL8_6_ok

end Go.Sim.M
