/- Functions of the program as the executor found them: printed by program, checked by the kernel. -/
import Derived.Test.YtlapjnnkblbhdaaDoorAwk7
set_option linter.unusedVariables false
set_option linter.unusedSimpArgs false
set_option maxRecDepth 100000
namespace Go.Sim.M
open Go.RowKit Go.Proofs

/-- The environment of bitemporal/bitemporallaw08.TupleOrders: its loops so far. -/

noncomputable def law08_TupleOrders_E0 : Env := EA7.fn 19 0 (lsOf []) (lpsOf [])

theorem law08_TupleOrders_E0_ok : OrcOk Tryd.prog (ITryd.at 0) law08_TupleOrders_E0 := EA7_ok.fn

theorem law08_TupleOrders_E0_lk4 : LoOk Tryd.prog (ITryd.at law08_TupleOrders_E0.pin) law08_TupleOrders_E0 (Tryd.f4.body.getD .skip) := loOk_nil (by kernel_rfl)

/- 11 nodes -/
noncomputable def law08_TupleOrders_t {T : Type} (l : List AV) (o : List AV) (δ : T) (κ : Bool → T) : T := br (!law08_short l) (κ (true)) (br ((tuple_Order l o).isSome) (br ((ref08_Order_R (1000 : Nat) l o).isSome) (br (ref08_List_pre ((tuple_Order l o).getD []) ((ref08_Order_R (1000 : Nat) l o).getD [])) (br (ref08_List ((tuple_Order l o).getD []) ((ref08_Order_R (1000 : Nat) l o).getD [])) (κ (true)) (κ (false))) (δ)) (δ)) (δ))
noncomputable def law08_TupleOrders (l : List AV) (o : List AV) : Option (Bool) := law08_TupleOrders_t l o none some
theorem law08_TupleOrders_x (l : List AV) (o : List AV) : Enc (fun (p : Bool) => ((AV.bool p) : AV)) (law08_TupleOrders l o) (XF Tryd.prog law08_TupleOrders_E0 Tryd.f4 (Tryd.f4.body.getD .skip) [AV.list (1 : Nat) l, AV.list (2 : Nat) o]) := by
  have h : XF Tryd.prog law08_TupleOrders_E0 Tryd.f4 (Tryd.f4.body.getD .skip) [AV.list (1 : Nat) l, AV.list (2 : Nat) o] = law08_TupleOrders_t l o none (fun (p : Bool) => some ((AV.bool p) : AV)) := by kernel_rfl
  rw [h]; unfold law08_TupleOrders law08_TupleOrders_t; repeat' (first | exact Enc.none | exact Enc.some rfl | refine Enc.br ?_ ?_)
noncomputable def law08_TupleOrders_o : List AV → Option (Bool × AV) := ocOf (sCons (sList (1 : Nat) pAny) (sCons (sList (2 : Nat) pAny) sNil)) fun (l, (o, _)) => ((law08_TupleOrders l o).isSome, (AV.bool ((law08_TupleOrders l o).getD false)))
theorem law08_TupleOrders_c : OcOk Tryd.prog ITryd 4 (law08_TupleOrders_o) := ocOk_of fun vv rr hh => by
  obtain ⟨l, ⟨o, _⟩⟩ := vv
  obtain ⟨hh1, hh2⟩ := Prod.mk.inj hh
  refine good_pin (p := law08_TupleOrders_E0.pin) (good_XF mxTryd (inv0Ok Tryd.prog _) rfl law08_TupleOrders_E0_ok Tryd.func4 rfl (by kernel_rfl) law08_TupleOrders_E0_lk4 ((law08_TupleOrders_x _ _ _ (getD_of_isSome (d := false) hh1)).trans ?_))
  exact congrArg some hh2


noncomputable def ELB_1 : Env := EA7.with 4 law08_TupleOrders_o

theorem ELB_1_ok : OrcOk Tryd.prog ITryd ELB_1 := EA7_ok.with law08_TupleOrders_c

/-- The environment of bitemporal/bitemporallaw08.TupleMultiset: its loops so far. -/

noncomputable def law08_TupleMultiset_E0 : Env := ELB_1.fn 93 0 (lsOf []) (lpsOf [])

theorem law08_TupleMultiset_E0_ok : OrcOk Tryd.prog (ITryd.at 0) law08_TupleMultiset_E0 := ELB_1_ok.fn

theorem law08_TupleMultiset_E0_lk7_0 : LoOk Tryd.prog (ITryd.at law08_TupleMultiset_E0.pin) law08_TupleMultiset_E0 (loopAt Tryd.f7 0) := loOk_nil (by kernel_rfl)

/- 15 nodes -/
noncomputable def law08_TupleMultiset_l0_t {T : Type} (l : List AV) (i : Int) (k : Int) (a : List AV) (j : Int) (δ : T) (κl : (Int) → T) (κr : (Bool × (Bool) × (Unit)) → T) : T := br (decide (j < (↑a.length : Int))) (br (decide ((0 : Int) ≤ IntKind.i64.wrap (j - (1 : Int))) && decide (IntKind.i64.wrap (j - (1 : Int)) < (↑a.length : Int))) (br (decide ((IntKind.i64.wrap (j - (1 : Int))).toNat < a.length) && hasSh1 (Sh.list (3 : Nat)) ((a.getD (IntKind.i64.wrap (j - (1 : Int))).toNat AV.top).cells.getD (0 : Nat) AV.top)) (br (decide ((0 : Int) ≤ j) && decide (j < (↑a.length : Int))) (br (decide (j.toNat < a.length) && hasSh1 (Sh.list (3 : Nat)) ((a.getD j.toNat AV.top).cells.getD (0 : Nat) AV.top)) (br (tuple_Compare_pre ((a.getD (IntKind.i64.wrap (j - (1 : Int))).toNat AV.top).cells.getD (0 : Nat) AV.top).toList ((a.getD j.toNat AV.top).cells.getD (0 : Nat) AV.top).toList) (br (decide (tuple_Compare ((a.getD (IntKind.i64.wrap (j - (1 : Int))).toNat AV.top).cells.getD (0 : Nat) AV.top).toList ((a.getD j.toNat AV.top).cells.getD (0 : Nat) AV.top).toList > (0 : Int))) (κr (true, (false), ())) (κl (IntKind.i64.wrap (j + (1 : Int))))) (δ)) (δ)) (δ)) (δ)) (δ)) (κr (false, false, ()))
noncomputable def law08_TupleMultiset_l0_step (l : List AV) (i : Int) (k : Int) (a : List AV) : (Int) → Option ((Int) ⊕ (Bool × (Bool) × (Unit))) := fun (j) => law08_TupleMultiset_l0_t l i k a j none (fun s => some (.inl s)) (fun p => some (.inr p))
noncomputable def law08_TupleMultiset_l0_L (l : List AV) (i : Int) (k : Int) (a : List AV) : (Int) → List AV × List Box := fun (j) => ([AV.list (1 : Nat) l, AV.int IntKind.i64 i, AV.int IntKind.i64 k, AV.list (1 : Nat) a, AV.int IntKind.i64 j], [])
noncomputable def law08_TupleMultiset_l0_out (l : List AV) (i : Int) (k : Int) (a : List AV) : (Bool × (Bool) × (Unit)) → LR := fun p => (.node p.1 (.leaf (Exit.ret) [AV.list (1 : Nat) l, AV.int IntKind.i64 i, AV.int IntKind.i64 k, AV.bool p.2.1, AV.list (1 : Nat) a] []) (.leaf (Exit.exit (0 : Nat)) [AV.list (1 : Nat) l, AV.int IntKind.i64 i, AV.int IntKind.i64 k, AV.top, AV.list (1 : Nat) a] []))
noncomputable abbrev law08_TupleMultiset_l0_X (vals : List AV) (H : List Box) := XR Tryd.prog law08_TupleMultiset_E0 [0, 2, 3, 9, 10] [0, 2, 3, 8, 9] [] (loopAt Tryd.f7 0) vals H
theorem law08_TupleMultiset_l0_r (l : List AV) (i : Int) (k : Int) (a : List AV) (j : Int) : Enc (encR (law08_TupleMultiset_l0_L l i k a) (law08_TupleMultiset_l0_out l i k a)) (law08_TupleMultiset_l0_step l i k a j) (law08_TupleMultiset_l0_X (law08_TupleMultiset_l0_L l i k a j).1 (law08_TupleMultiset_l0_L l i k a j).2) := by
  have h : law08_TupleMultiset_l0_X (law08_TupleMultiset_l0_L l i k a j).1 (law08_TupleMultiset_l0_L l i k a j).2 = law08_TupleMultiset_l0_t l i k a j none (fun s => some (encR (law08_TupleMultiset_l0_L l i k a) (law08_TupleMultiset_l0_out l i k a) (.inl s))) (fun p => some (encR (law08_TupleMultiset_l0_L l i k a) (law08_TupleMultiset_l0_out l i k a) (.inr p))) := by kernel_rfl
  rw [h]; unfold law08_TupleMultiset_l0_step law08_TupleMultiset_l0_t; repeat' (first | exact Enc.none | exact Enc.some rfl | refine Enc.br ?_ ?_)
noncomputable def law08_TupleMultiset_l0_lp : Lp := lpOf [0, 2, 3, 9, 10] [0, 2, 3, 8, 9] [] (pCons (pList (1 : Nat) pAny) (pCons (pInt IntKind.i64) (pCons (pInt IntKind.i64) (pCons (pList (1 : Nat) pAny) (pCons (pInt IntKind.i64) pNil))))) pNil fun (l, (i, (k, (a, (j, _))))) _ => ((Iter (law08_TupleMultiset_l0_step l i k a) (j)).isSome, law08_TupleMultiset_l0_out l i k a ((Iter (law08_TupleMultiset_l0_step l i k a) (j)).getD (false, false, ())))
theorem law08_TupleMultiset_l0_lok : LoopOk Tryd.prog (ITryd.at law08_TupleMultiset_E0.pin) law08_TupleMultiset_E0.nt (loopAt Tryd.f7 0) law08_TupleMultiset_l0_lp := lok_of fun vv bb rr hh => by
  obtain ⟨l, ⟨i, ⟨k, ⟨a, ⟨j, _⟩⟩⟩⟩⟩ := vv
  obtain ⟨hh1, rfl⟩ := Prod.mk.inj hh
  exact loop_of_XR mxTryd (inv0Ok Tryd.prog _) rfl law08_TupleMultiset_E0_ok law08_TupleMultiset_E0_lk7_0 (law08_TupleMultiset_l0_L l i k a) (law08_TupleMultiset_l0_out l i k a) (fun p => by simp only [law08_TupleMultiset_l0_out, LR.eval]; first | (simp; done) | (repeat' split <;> simp)) (law08_TupleMultiset_l0_r l i k a) (s := (j)) (getD_of_isSome hh1)


/-- The environment of bitemporal/bitemporallaw08.TupleMultiset: its loops so far. -/

noncomputable def law08_TupleMultiset_E1 : Env := ELB_1.fn 93 0 (lsOf []) (lpsOf [(5, law08_TupleMultiset_l0_lp)])

theorem law08_TupleMultiset_E1_ok : OrcOk Tryd.prog (ITryd.at 0) law08_TupleMultiset_E1 := ELB_1_ok.fn

theorem law08_TupleMultiset_E1_lk7 : LoOk Tryd.prog (ITryd.at law08_TupleMultiset_E1.pin) law08_TupleMultiset_E1 (Tryd.f7.body.getD .skip) := loOk_all (ls := [loopAt Tryd.f7 0]) (by kernel_rfl) (fun l hl lp hs => by
  simp only [List.mem_cons, List.not_mem_nil, or_false] at hl
  rcases hl with rfl
  · rw [show law08_TupleMultiset_E1.lp (codeId (loopAt Tryd.f7 0)) = some law08_TupleMultiset_l0_lp by kernel_rfl] at hs
    simp only [Option.some.injEq] at hs; subst hs; exact law08_TupleMultiset_l0_lok)

/- 53 nodes -/
noncomputable def law08_TupleMultiset_v3 (l : List AV) (i : Int) (k : Int) : List AV := ([] ++ l).set ((0 : Nat) + i.toNat) (AV.list (3 : Nat) ((l.getD k.toNat AV.top).cells.getD (0 : Nat) AV.top).toList)
noncomputable def law08_TupleMultiset_v2 (l : List AV) (i : Int) (k : Int) : List AV := (law08_TupleMultiset_v3 l i k).set ((0 : Nat) + k.toNat) (AV.list (3 : Nat) ((l.getD i.toNat AV.top).cells.getD (0 : Nat) AV.top).toList)
noncomputable def law08_TupleMultiset_v1 (l : List AV) (i : Int) (k : Int) : Option (List AV) := tuple_Sort (List.take ((0 : Nat) + l.length) (List.drop (0 : Nat) (law08_TupleMultiset_v2 l i k)))
noncomputable def law08_TupleMultiset_v0 (l : List AV) (i : Int) (k : Int) : List AV := (law08_TupleMultiset_v1 l i k).getD []
noncomputable def law08_TupleMultiset_t {T : Type} (l : List AV) (o : List AV) (i : Int) (k : Int) (δ : T) (κ : Bool → T) : T := br ((tuple_Sort l).isSome) (br ((↑((tuple_Sort l).getD []).length : Int) != (↑l.length : Int)) (κ (false)) (br ((tuple_Same ((tuple_Sort l).getD []) l).isSome) (br (!(tuple_Same ((tuple_Sort l).getD []) l).getD false) (κ (false)) (br ((tuple_Order l o).isSome) (br ((tuple_Same ((tuple_Order l o).getD []) l).isSome) (br (!(tuple_Same ((tuple_Order l o).getD []) l).getD false) (κ (false)) (br ((Iter (law08_TupleMultiset_l0_step l i k ((tuple_Sort l).getD [])) (1 : Int)).isSome) (br (((Iter (law08_TupleMultiset_l0_step l i k ((tuple_Sort l).getD [])) (1 : Int)).getD (false, false, ())).fst) (κ (((Iter (law08_TupleMultiset_l0_step l i k ((tuple_Sort l).getD [])) (1 : Int)).getD (false, false, ())).snd.fst)) (br (decide (i < (0 : Int))) (κ (true)) (br (decide (i ≥ (↑l.length : Int))) (κ (true)) (br (decide (k < (0 : Int))) (κ (true)) (br (decide (k ≥ (↑l.length : Int))) (κ (true)) (br (decide (((0 : Nat) + l.length) * (24 : Nat) ≤ (140737488355328 : Nat)) && decide ((0 : Nat) + l.length ≤ (4611686018427387904 : Nat))) (br (decide ((0 : Int) ≤ k) && decide (k < (↑l.length : Int))) (br (decide (k.toNat < l.length) && hasSh1 (Sh.list (3 : Nat)) ((l.getD k.toNat AV.top).cells.getD (0 : Nat) AV.top)) (br (decide ((0 : Int) ≤ i) && decide (i < (↑((0 : Nat) + l.length) : Int))) (br (decide ((0 : Nat) + i.toNat < ([] ++ l).length)) (br (decide ((0 : Int) ≤ i) && decide (i < (↑l.length : Int))) (br (decide (i.toNat < l.length) && hasSh1 (Sh.list (3 : Nat)) ((l.getD i.toNat AV.top).cells.getD (0 : Nat) AV.top)) (br (decide ((0 : Int) ≤ k) && decide (k < (↑((0 : Nat) + l.length) : Int))) (br (decide ((0 : Nat) + k.toNat < (law08_TupleMultiset_v3 l i k).length)) (br (decide ((0 : Nat) + ((0 : Nat) + l.length) ≤ (law08_TupleMultiset_v2 l i k).length) && true) (br ((law08_TupleMultiset_v1 l i k).isSome) (br (ref08_List_pre (law08_TupleMultiset_v0 l i k) ((tuple_Sort l).getD [])) (br (ref08_List (law08_TupleMultiset_v0 l i k) ((tuple_Sort l).getD [])) (κ (true)) (κ (false))) (δ)) (δ)) (δ)) (δ)) (δ)) (δ)) (δ)) (δ)) (δ)) (δ)) (δ)) (δ))))))) (δ))) (δ)) (δ))) (δ))) (δ)
noncomputable def law08_TupleMultiset (l : List AV) (o : List AV) (i : Int) (k : Int) : Option (Bool) := law08_TupleMultiset_t l o i k none some
theorem law08_TupleMultiset_x (l : List AV) (o : List AV) (i : Int) (k : Int) : Enc (fun (p : Bool) => ((AV.bool p) : AV)) (law08_TupleMultiset l o i k) (XF Tryd.prog law08_TupleMultiset_E1 Tryd.f7 (Tryd.f7.body.getD .skip) [AV.list (1 : Nat) l, AV.list (2 : Nat) o, AV.int IntKind.i64 i, AV.int IntKind.i64 k]) := by
  have h : XF Tryd.prog law08_TupleMultiset_E1 Tryd.f7 (Tryd.f7.body.getD .skip) [AV.list (1 : Nat) l, AV.list (2 : Nat) o, AV.int IntKind.i64 i, AV.int IntKind.i64 k] = law08_TupleMultiset_t l o i k none (fun (p : Bool) => some ((AV.bool p) : AV)) := by kernel_rfl
  rw [h]; unfold law08_TupleMultiset law08_TupleMultiset_t; repeat' (first | exact Enc.none | exact Enc.some rfl | refine Enc.br ?_ ?_)
noncomputable def law08_TupleMultiset_o : List AV → Option (Bool × AV) := ocOf (sCons (sList (1 : Nat) pAny) (sCons (sList (2 : Nat) pAny) (sCons (sEq (pInt IntKind.i64)) (sCons (sEq (pInt IntKind.i64)) sNil)))) fun (l, (o, (i, (k, _)))) => ((law08_TupleMultiset l o i k).isSome, (AV.bool ((law08_TupleMultiset l o i k).getD false)))
theorem law08_TupleMultiset_c : OcOk Tryd.prog ITryd 7 (law08_TupleMultiset_o) := ocOk_of fun vv rr hh => by
  obtain ⟨l, ⟨o, ⟨i, ⟨k, _⟩⟩⟩⟩ := vv
  obtain ⟨hh1, hh2⟩ := Prod.mk.inj hh
  refine good_pin (p := law08_TupleMultiset_E1.pin) (good_XF mxTryd (inv0Ok Tryd.prog _) rfl law08_TupleMultiset_E1_ok Tryd.func7 rfl (by kernel_rfl) law08_TupleMultiset_E1_lk7 ((law08_TupleMultiset_x _ _ _ _ _ (getD_of_isSome (d := false) hh1)).trans ?_))
  exact congrArg some hh2


noncomputable def ELB_2 : Env := ELB_1.with 7 law08_TupleMultiset_o

theorem ELB_2_ok : OrcOk Tryd.prog ITryd ELB_2 := ELB_1_ok.with law08_TupleMultiset_c

noncomputable abbrev ELB : Env := ELB_2

theorem ELB_ok : OrcOk Tryd.prog ITryd ELB := ELB_2_ok

end Go.Sim.M
