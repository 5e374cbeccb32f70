/- Functions of the program as the executor found them: printed by program, checked by the kernel. -/
import Derived.Test.YtlapjnnkblbhdaaDoorL6
set_option linter.unusedVariables false
set_option linter.unusedSimpArgs false
set_option maxRecDepth 100000
namespace Go.Sim.M
open Go.RowKit Go.Proofs

/-- The environment of bitemporal/bitemporalref08.Order: its loops so far. -/

noncomputable def ref08_Order_E0 : Env := EL6.fn 34 0 (lsOf []) (lpsOf [])

theorem ref08_Order_E0_ok : OrcOk Tryd.prog (ITryd.at 0) ref08_Order_E0 := EL6_ok.fn

/- 0 nodes -/
noncomputable def ref08_Order_recO (R : List AV → List AV → Option (List AV)) : List AV → Option (Bool × AV) := ocOf (sCons (sList (1 : Nat) pAny) (sCons (sList (2 : Nat) pAny) sNil)) fun (l, (o, _)) => ((R l o).isSome, AV.list 1 ((R l o).getD []))


noncomputable def ref08_Order_ER (R : List AV → List AV → Option (List AV)) : Env := (EL6.with 18 (ref08_Order_recO R)).fn 34 0 (lsOf []) (lpsOf [])
def ref08_Order_ER_hR (R : List AV → List AV → Option (List AV)) : Prop := OcOk Tryd.prog ITryd 18 (ref08_Order_recO R)

theorem ref08_Order_ER_ok (R : List AV → List AV → Option (List AV)) (hR : ref08_Order_ER_hR R) : OrcOk Tryd.prog (ITryd.at 0) (ref08_Order_ER R) := (EL6_ok.with hR).fn

theorem ref08_Order_ER_lk18 (R : List AV → List AV → Option (List AV)) : LoOk Tryd.prog (ITryd.at (ref08_Order_ER R).pin) (ref08_Order_ER R) (Tryd.f18.body.getD .skip) := loOk_nil (by kernel_rfl)

/- 23 nodes -/
noncomputable def ref08_Order_v0 (l : List AV) : Bool := decide ((0 : Int) ≤ IntKind.i64.wrap ((↑l.length : Int).tdiv (2 : Int))) && decide (IntKind.i64.wrap ((↑l.length : Int).tdiv (2 : Int)) ≤ (↑l.length : Int))
noncomputable def ref08_Order_v1 (l : List AV) : Nat := (0 : Nat) + ((l.getD (0 : Nat) AV.top).cells.getD (0 : Nat) AV.top).toList.length
noncomputable def ref08_Order_v3 (R : List AV → List AV → Option (List AV)) (l : List AV) (o : List AV) : Option (List AV) := R (List.take (l.length - (IntKind.i64.wrap ((↑l.length : Int).tdiv (2 : Int))).toNat) (List.drop (IntKind.i64.wrap ((↑l.length : Int).tdiv (2 : Int))).toNat l)) o
noncomputable def ref08_Order_v2 (R : List AV → List AV → Option (List AV)) (l : List AV) (o : List AV) : List AV := (ref08_Order_v3 R l o).getD []
noncomputable def ref08_Order_t {T : Type} (R : List AV → List AV → Option (List AV)) (l : List AV) (o : List AV) (δ : T) (κ : List AV → T) : T := br ((↑l.length : Int) == (0 : Int)) (κ ([])) (br ((↑l.length : Int) == (1 : Int)) (br (decide ((0 : Int) < (↑l.length : Int))) (br (decide ((0 : Nat) < l.length) && hasSh1 (Sh.list (3 : Nat)) ((l.getD (0 : Nat) AV.top).cells.getD (0 : Nat) AV.top)) (br (decide (ref08_Order_v1 l * (32 : Nat) ≤ (140737488355328 : Nat)) && decide (ref08_Order_v1 l ≤ (4611686018427387904 : Nat))) (br (decide ((0 : Nat) + ref08_Order_v1 l ≤ ([] ++ ((l.getD (0 : Nat) AV.top).cells.getD (0 : Nat) AV.top).toList).length) && true && true && true) (κ ([AV.list (3 : Nat) (List.take (ref08_Order_v1 l) (List.drop (0 : Nat) ([] ++ ((l.getD (0 : Nat) AV.top).cells.getD (0 : Nat) AV.top).toList)))])) (δ)) (δ)) (δ)) (δ)) (br (ref08_Order_v0 l && true) (br ((R (List.take ((IntKind.i64.wrap ((↑l.length : Int).tdiv (2 : Int))).toNat - (0 : Nat)) (List.drop (0 : Nat) l)) o).isSome) (br (ref08_Order_v0 l) (br ((ref08_Order_v3 R l o).isSome) (br (ref08_merged_pre ((R (List.take ((IntKind.i64.wrap ((↑l.length : Int).tdiv (2 : Int))).toNat - (0 : Nat)) (List.drop (0 : Nat) l)) o).getD []) (ref08_Order_v2 R l o) o) (κ (ref08_merged ((R (List.take ((IntKind.i64.wrap ((↑l.length : Int).tdiv (2 : Int))).toNat - (0 : Nat)) (List.drop (0 : Nat) l)) o).getD []) (ref08_Order_v2 R l o) o)) (δ)) (δ)) (δ)) (δ)) (δ)))
noncomputable def ref08_Order (R : List AV → List AV → Option (List AV)) (l : List AV) (o : List AV) : Option (List AV) := ref08_Order_t R l o none some
theorem ref08_Order_x (R : List AV → List AV → Option (List AV)) (l : List AV) (o : List AV) : Enc (fun (p : List AV) => ((AV.list (1 : Nat) p) : AV)) (ref08_Order R l o) (XF Tryd.prog (ref08_Order_ER R) Tryd.f18 (Tryd.f18.body.getD .skip) [AV.list (1 : Nat) l, AV.list (2 : Nat) o]) := by
  have h : XF Tryd.prog (ref08_Order_ER R) Tryd.f18 (Tryd.f18.body.getD .skip) [AV.list (1 : Nat) l, AV.list (2 : Nat) o] = ref08_Order_t R l o none (fun (p : List AV) => some ((AV.list (1 : Nat) p) : AV)) := by kernel_rfl
  rw [h]; unfold ref08_Order ref08_Order_t; repeat' (first | exact Enc.none | exact Enc.some rfl | refine Enc.br ?_ ?_)
noncomputable def ref08_Order_o (R : List AV → List AV → Option (List AV)) : List AV → Option (Bool × AV) := ocOf (sCons (sList (1 : Nat) pAny) (sCons (sList (2 : Nat) pAny) sNil)) fun (l, (o, _)) => ((ref08_Order R l o).isSome, (AV.list (1 : Nat) ((ref08_Order R l o).getD [])))
theorem ref08_Order_c (R : List AV → List AV → Option (List AV)) (hR : ref08_Order_ER_hR R) : OcOk Tryd.prog ITryd 18 (ref08_Order_o R) := ocOk_of fun vv rr hh => by
  obtain ⟨l, ⟨o, _⟩⟩ := vv
  obtain ⟨hh1, hh2⟩ := Prod.mk.inj hh
  refine good_pin (p := (ref08_Order_ER R).pin) (good_XF mxTryd (inv0Ok Tryd.prog _) rfl (ref08_Order_ER_ok R hR) Tryd.func18 rfl (by kernel_rfl) (ref08_Order_ER_lk18 R) ((ref08_Order_x R _ _ _ (getD_of_isSome (d := []) hh1)).trans ?_))
  exact congrArg some hh2


noncomputable def ref08_Order_R : Nat → List AV → List AV → Option (List AV)
  | 0 => fun _ _ => none
  | fu_ + 1 => fun l o => ref08_Order (ref08_Order_R fu_) l o

theorem ref08_Order_R_ok : ∀ n, ref08_Order_ER_hR (ref08_Order_R n)
  | 0 => ocOk_of fun _ _ h => absurd (Prod.mk.inj h).1 Bool.false_ne_true
  | fu_ + 1 => fun xs r h => ref08_Order_c (ref08_Order_R fu_) (ref08_Order_R_ok fu_) xs r h

noncomputable def EL7_1 : Env := EL6.with 18 (ref08_Order_recO (ref08_Order_R 1000))

theorem EL7_1_ok : OrcOk Tryd.prog ITryd EL7_1 := EL6_ok.with (ref08_Order_R_ok _)

/-- The environment of bitemporal/bitemporalref08.Sort: its loops so far. -/

noncomputable def ref08_Sort_E0 : Env := EL7_1.fn 5 0 (lsOf []) (lpsOf [])

theorem ref08_Sort_E0_ok : OrcOk Tryd.prog (ITryd.at 0) ref08_Sort_E0 := EL7_1_ok.fn

theorem ref08_Sort_E0_lk27 : LoOk Tryd.prog (ITryd.at ref08_Sort_E0.pin) ref08_Sort_E0 (Tryd.f27.body.getD .skip) := loOk_nil (by kernel_rfl)

/- 3 nodes -/
noncomputable def ref08_Sort_t {T : Type} (l : List AV) (δ : T) (κ : List AV → T) : T := br ((ref08_Order_R (1000 : Nat) l []).isSome) (κ ((ref08_Order_R (1000 : Nat) l []).getD [])) (δ)
noncomputable def ref08_Sort (l : List AV) : Option (List AV) := ref08_Sort_t l none some
theorem ref08_Sort_x (l : List AV) : Enc (fun (p : List AV) => ((AV.list (1 : Nat) p) : AV)) (ref08_Sort l) (XF Tryd.prog ref08_Sort_E0 Tryd.f27 (Tryd.f27.body.getD .skip) [AV.list (1 : Nat) l]) := by
  have h : XF Tryd.prog ref08_Sort_E0 Tryd.f27 (Tryd.f27.body.getD .skip) [AV.list (1 : Nat) l] = ref08_Sort_t l none (fun (p : List AV) => some ((AV.list (1 : Nat) p) : AV)) := by kernel_rfl
  rw [h]; unfold ref08_Sort ref08_Sort_t; repeat' (first | exact Enc.none | exact Enc.some rfl | refine Enc.br ?_ ?_)
noncomputable def ref08_Sort_o : List AV → Option (Bool × AV) := ocOf (sCons (sList (1 : Nat) pAny) sNil) fun (l, _) => ((ref08_Sort l).isSome, (AV.list (1 : Nat) ((ref08_Sort l).getD [])))
theorem ref08_Sort_c : OcOk Tryd.prog ITryd 27 (ref08_Sort_o) := ocOk_of fun vv rr hh => by
  obtain ⟨l, _⟩ := vv
  obtain ⟨hh1, hh2⟩ := Prod.mk.inj hh
  refine good_pin (p := ref08_Sort_E0.pin) (good_XF mxTryd (inv0Ok Tryd.prog _) rfl ref08_Sort_E0_ok Tryd.func27 rfl (by kernel_rfl) ref08_Sort_E0_lk27 ((ref08_Sort_x _ _ (getD_of_isSome (d := []) hh1)).trans ?_))
  exact congrArg some hh2


noncomputable def EL7_2 : Env := EL7_1.with 27 ref08_Sort_o

theorem EL7_2_ok : OrcOk Tryd.prog ITryd EL7_2 := EL7_1_ok.with ref08_Sort_c

/-- The environment of slices.EqualFunc     bitemporal/api.Value,    bitemporal/api.Value,  bitemporal/api.Value,  bitemporal/api.Value : its loops so far. -/

noncomputable def slices_EqualFunc_E0 : Env := EL7_2.fn 32 0 (lsOf []) (lpsOf [])

theorem slices_EqualFunc_E0_ok : OrcOk Tryd.prog (ITryd.at 0) slices_EqualFunc_E0 := EL7_2_ok.fn

theorem slices_EqualFunc_E0_lk47_0 : LoOk Tryd.prog (ITryd.at slices_EqualFunc_E0.pin) slices_EqualFunc_E0 (loopAt Tryd.f47 0) := loOk_nil (by kernel_rfl)

/- 15 nodes -/
noncomputable def slices_EqualFunc_l0_t {T : Type} (s2 : List AV) (t15 : List AV) (t16 : Int) (t17 : Int) (δ : T) (κl : (Int) → T) (κr : (Bool × (Bool) × (Unit)) → T) : T := br (decide (t17 < t16)) (br (decide ((0 : Int) ≤ t17) && decide (t17 < (↑t15.length : Int))) (br (decide (t17.toNat < t15.length) && hasSh1 (Sh.list (3 : Nat)) ((t15.getD t17.toNat AV.top).cells.getD (0 : Nat) AV.top)) (br (decide ((0 : Int) ≤ t17) && decide (t17 < (↑s2.length : Int))) (br (decide (t17.toNat < s2.length) && hasSh1 (Sh.list (3 : Nat)) ((s2.getD t17.toNat AV.top).cells.getD (0 : Nat) AV.top)) (br (tuple_Equal_pre ((t15.getD t17.toNat AV.top).cells.getD (0 : Nat) AV.top).toList ((s2.getD t17.toNat AV.top).cells.getD (0 : Nat) AV.top).toList) (br (!tuple_Equal ((t15.getD t17.toNat AV.top).cells.getD (0 : Nat) AV.top).toList ((s2.getD t17.toNat AV.top).cells.getD (0 : Nat) AV.top).toList) (κr (true, (false), ())) (κl (IntKind.i64.wrap (t17 + (1 : Int))))) (δ)) (δ)) (δ)) (δ)) (δ)) (κr (false, false, ()))
noncomputable def slices_EqualFunc_l0_step (s2 : List AV) (t15 : List AV) (t16 : Int) : (Int) → Option ((Int) ⊕ (Bool × (Bool) × (Unit))) := fun (t17) => slices_EqualFunc_l0_t s2 t15 t16 t17 none (fun s => some (.inl s)) (fun p => some (.inr p))
noncomputable def slices_EqualFunc_l0_L (s2 : List AV) (t15 : List AV) (t16 : Int) : (Int) → List AV × List Box := fun (t17) => ([AV.list (1 : Nat) s2, AV.func (12 : Nat) [], AV.list (1 : Nat) t15, AV.int IntKind.i64 t16, AV.int IntKind.i64 t17], [])
noncomputable def slices_EqualFunc_l0_out (s2 : List AV) (t15 : List AV) (t16 : Int) : (Bool × (Bool) × (Unit)) → LR := fun p => (.node p.1 (.leaf (Exit.ret) [AV.bool p.2.1] []) (.leaf (Exit.exit (0 : Nat)) [AV.top] []))
noncomputable abbrev slices_EqualFunc_l0_X (vals : List AV) (H : List Box) := XR Tryd.prog slices_EqualFunc_E0 [1, 2, 15, 16, 17] [6] [] (loopAt Tryd.f47 0) vals H
theorem slices_EqualFunc_l0_r (s2 : List AV) (t15 : List AV) (t16 : Int) (t17 : Int) : Enc (encR (slices_EqualFunc_l0_L s2 t15 t16) (slices_EqualFunc_l0_out s2 t15 t16)) (slices_EqualFunc_l0_step s2 t15 t16 t17) (slices_EqualFunc_l0_X (slices_EqualFunc_l0_L s2 t15 t16 t17).1 (slices_EqualFunc_l0_L s2 t15 t16 t17).2) := by
  have h : slices_EqualFunc_l0_X (slices_EqualFunc_l0_L s2 t15 t16 t17).1 (slices_EqualFunc_l0_L s2 t15 t16 t17).2 = slices_EqualFunc_l0_t s2 t15 t16 t17 none (fun s => some (encR (slices_EqualFunc_l0_L s2 t15 t16) (slices_EqualFunc_l0_out s2 t15 t16) (.inl s))) (fun p => some (encR (slices_EqualFunc_l0_L s2 t15 t16) (slices_EqualFunc_l0_out s2 t15 t16) (.inr p))) := by kernel_rfl
  rw [h]; unfold slices_EqualFunc_l0_step slices_EqualFunc_l0_t; repeat' (first | exact Enc.none | exact Enc.some rfl | refine Enc.br ?_ ?_)
noncomputable def slices_EqualFunc_l0_lp : Lp := lpOf [1, 2, 15, 16, 17] [6] [] (pCons (pList (1 : Nat) pAny) (pCons (pFunc (12 : Nat) pNil) (pCons (pList (1 : Nat) pAny) (pCons (pInt IntKind.i64) (pCons (pInt IntKind.i64) pNil))))) pNil fun (s2, (_, (t15, (t16, (t17, _))))) _ => ((Iter (slices_EqualFunc_l0_step s2 t15 t16) (t17)).isSome, slices_EqualFunc_l0_out s2 t15 t16 ((Iter (slices_EqualFunc_l0_step s2 t15 t16) (t17)).getD (false, false, ())))
theorem slices_EqualFunc_l0_lok : LoopOk Tryd.prog (ITryd.at slices_EqualFunc_E0.pin) slices_EqualFunc_E0.nt (loopAt Tryd.f47 0) slices_EqualFunc_l0_lp := lok_of fun vv bb rr hh => by
  obtain ⟨s2, ⟨_, ⟨t15, ⟨t16, ⟨t17, _⟩⟩⟩⟩⟩ := vv
  obtain ⟨hh1, rfl⟩ := Prod.mk.inj hh
  exact loop_of_XR mxTryd (inv0Ok Tryd.prog _) rfl slices_EqualFunc_E0_ok slices_EqualFunc_E0_lk47_0 (slices_EqualFunc_l0_L s2 t15 t16) (slices_EqualFunc_l0_out s2 t15 t16) (fun p => by simp only [slices_EqualFunc_l0_out, LR.eval]; first | (simp; done) | (repeat' split <;> simp)) (slices_EqualFunc_l0_r s2 t15 t16) (s := (t17)) (getD_of_isSome hh1)


/-- The environment of slices.EqualFunc     bitemporal/api.Value,    bitemporal/api.Value,  bitemporal/api.Value,  bitemporal/api.Value : its loops so far. -/

noncomputable def slices_EqualFunc_E1 : Env := EL7_2.fn 32 0 (lsOf []) (lpsOf [(4, slices_EqualFunc_l0_lp)])

theorem slices_EqualFunc_E1_ok : OrcOk Tryd.prog (ITryd.at 0) slices_EqualFunc_E1 := EL7_2_ok.fn

theorem slices_EqualFunc_E1_lk47 : LoOk Tryd.prog (ITryd.at slices_EqualFunc_E1.pin) slices_EqualFunc_E1 (Tryd.f47.body.getD .skip) := loOk_all (ls := [loopAt Tryd.f47 0]) (by kernel_rfl) (fun l hl lp hs => by
  simp only [List.mem_cons, List.not_mem_nil, or_false] at hl
  rcases hl with rfl
  · rw [show slices_EqualFunc_E1.lp (codeId (loopAt Tryd.f47 0)) = some slices_EqualFunc_l0_lp by kernel_rfl] at hs
    simp only [Option.some.injEq] at hs; subst hs; exact slices_EqualFunc_l0_lok)

/- 7 nodes -/
noncomputable def slices_EqualFunc_t {T : Type} (a : List AV) (b : List AV) (δ : T) (κ : Bool → T) : T := br ((↑a.length : Int) != (↑b.length : Int)) (κ (false)) (br ((Iter (slices_EqualFunc_l0_step b a (↑a.length : Int)) (0 : Int)).isSome) (br (((Iter (slices_EqualFunc_l0_step b a (↑a.length : Int)) (0 : Int)).getD (false, false, ())).fst) (κ (((Iter (slices_EqualFunc_l0_step b a (↑a.length : Int)) (0 : Int)).getD (false, false, ())).snd.fst)) (κ (true))) (δ))
noncomputable def slices_EqualFunc (a : List AV) (b : List AV) : Option (Bool) := slices_EqualFunc_t a b none some
theorem slices_EqualFunc_x (a : List AV) (b : List AV) : Enc (fun (p : Bool) => ((AV.bool p) : AV)) (slices_EqualFunc a b) (XF Tryd.prog slices_EqualFunc_E1 Tryd.f47 (Tryd.f47.body.getD .skip) [AV.list (1 : Nat) a, AV.list (1 : Nat) b, AV.func (12 : FuncId) []]) := by
  have h : XF Tryd.prog slices_EqualFunc_E1 Tryd.f47 (Tryd.f47.body.getD .skip) [AV.list (1 : Nat) a, AV.list (1 : Nat) b, AV.func (12 : FuncId) []] = slices_EqualFunc_t a b none (fun (p : Bool) => some ((AV.bool p) : AV)) := by kernel_rfl
  rw [h]; unfold slices_EqualFunc slices_EqualFunc_t; repeat' (first | exact Enc.none | exact Enc.some rfl | refine Enc.br ?_ ?_)
noncomputable def slices_EqualFunc_o : List AV → Option (Bool × AV) := ocOf (sCons (sList (1 : Nat) pAny) (sCons (sList (1 : Nat) pAny) (sCons (sEq (pFunc (12 : FuncId) pNil)) sNil))) fun (a, (b, (_, _))) => ((slices_EqualFunc a b).isSome, (AV.bool ((slices_EqualFunc a b).getD false)))
theorem slices_EqualFunc_c : OcOk Tryd.prog ITryd 47 (slices_EqualFunc_o) := ocOk_of fun vv rr hh => by
  obtain ⟨a, ⟨b, ⟨_, _⟩⟩⟩ := vv
  obtain ⟨hh1, hh2⟩ := Prod.mk.inj hh
  refine good_pin (p := slices_EqualFunc_E1.pin) (good_XF mxTryd (inv0Ok Tryd.prog _) rfl slices_EqualFunc_E1_ok Tryd.func47 rfl (by kernel_rfl) slices_EqualFunc_E1_lk47 ((slices_EqualFunc_x _ _ _ (getD_of_isSome (d := false) hh1)).trans ?_))
  exact congrArg some hh2


noncomputable def EL7_3 : Env := EL7_2.with 47 slices_EqualFunc_o

theorem EL7_3_ok : OrcOk Tryd.prog ITryd EL7_3 := EL7_2_ok.with slices_EqualFunc_c

/-- The environment of bitemporal/tuple.Same: its loops so far. -/

noncomputable def tuple_Same_E0 : Env := EL7_3.fn 10 0 (lsOf []) (lpsOf [])

theorem tuple_Same_E0_ok : OrcOk Tryd.prog (ITryd.at 0) tuple_Same_E0 := EL7_3_ok.fn

theorem tuple_Same_E0_lk24 : LoOk Tryd.prog (ITryd.at tuple_Same_E0.pin) tuple_Same_E0 (Tryd.f24.body.getD .skip) := loOk_nil (by kernel_rfl)

/- 7 nodes -/
noncomputable def tuple_Same_t {T : Type} (a : List AV) (b : List AV) (δ : T) (κ : Bool → T) : T := br ((tuple_Sort a).isSome) (br ((tuple_Sort b).isSome) (br ((slices_EqualFunc ((tuple_Sort a).getD []) ((tuple_Sort b).getD [])).isSome) (κ ((slices_EqualFunc ((tuple_Sort a).getD []) ((tuple_Sort b).getD [])).getD false)) (δ)) (δ)) (δ)
noncomputable def tuple_Same (a : List AV) (b : List AV) : Option (Bool) := tuple_Same_t a b none some
theorem tuple_Same_x (a : List AV) (b : List AV) : Enc (fun (p : Bool) => ((AV.bool p) : AV)) (tuple_Same a b) (XF Tryd.prog tuple_Same_E0 Tryd.f24 (Tryd.f24.body.getD .skip) [AV.list (1 : Nat) a, AV.list (1 : Nat) b]) := by
  have h : XF Tryd.prog tuple_Same_E0 Tryd.f24 (Tryd.f24.body.getD .skip) [AV.list (1 : Nat) a, AV.list (1 : Nat) b] = tuple_Same_t a b none (fun (p : Bool) => some ((AV.bool p) : AV)) := by kernel_rfl
  rw [h]; unfold tuple_Same tuple_Same_t; repeat' (first | exact Enc.none | exact Enc.some rfl | refine Enc.br ?_ ?_)
noncomputable def tuple_Same_o : List AV → Option (Bool × AV) := ocOf (sCons (sList (1 : Nat) pAny) (sCons (sList (1 : Nat) pAny) sNil)) fun (a, (b, _)) => ((tuple_Same a b).isSome, (AV.bool ((tuple_Same a b).getD false)))
theorem tuple_Same_c : OcOk Tryd.prog ITryd 24 (tuple_Same_o) := ocOk_of fun vv rr hh => by
  obtain ⟨a, ⟨b, _⟩⟩ := vv
  obtain ⟨hh1, hh2⟩ := Prod.mk.inj hh
  refine good_pin (p := tuple_Same_E0.pin) (good_XF mxTryd (inv0Ok Tryd.prog _) rfl tuple_Same_E0_ok Tryd.func24 rfl (by kernel_rfl) tuple_Same_E0_lk24 ((tuple_Same_x _ _ _ (getD_of_isSome (d := false) hh1)).trans ?_))
  exact congrArg some hh2


noncomputable def EL7_4 : Env := EL7_3.with 24 tuple_Same_o

theorem EL7_4_ok : OrcOk Tryd.prog ITryd EL7_4 := EL7_3_ok.with tuple_Same_c

noncomputable abbrev EL7 : Env := EL7_4

theorem EL7_ok : OrcOk Tryd.prog ITryd EL7 := EL7_4_ok

end Go.Sim.M
