/- Functions of the program as the executor found them: printed by program, checked by the kernel. -/
import Derived.Test.YtlapjnnkblbhdaaDoorAwk8
set_option linter.unusedVariables false
set_option linter.unusedSimpArgs false
set_option maxRecDepth 100000
namespace Go.Sim.M
open Go.RowKit Go.Proofs

/-- The environment of bitemporal/bitemporallaw08.TupleSorts: its loops so far. -/

noncomputable def law08_TupleSorts_E0 : Env := EA8.fn 38 0 (lsOf []) (lpsOf [])

theorem law08_TupleSorts_E0_ok : OrcOk Tryd.prog (ITryd.at 0) law08_TupleSorts_E0 := EA8_ok.fn

theorem law08_TupleSorts_E0_lk9 : LoOk Tryd.prog (ITryd.at law08_TupleSorts_E0.pin) law08_TupleSorts_E0 (Tryd.f9.body.getD .skip) := loOk_nil (by kernel_rfl)

/- 29 nodes -/
noncomputable def law08_TupleSorts_v0 (a : List AV) : List AV := List.take ((tuple_Sort_M a).getD ((0 : Nat), [])).fst (List.drop (0 : Nat) ((tuple_Sort_M a).getD ((0 : Nat), [])).snd)
noncomputable def law08_TupleSorts_t {T : Type} (a : List AV) (b : List AV) (δ : T) (κ : Bool → T) : T := br (!law08_short a) (κ (true)) (br (!law08_short b) (κ (true)) (br ((tuple_Sort_M a).isSome) (br ((ref08_Sort a).isSome) (br (decide ((0 : Nat) + ((tuple_Sort_M a).getD ((0 : Nat), [])).fst ≤ ((tuple_Sort_M a).getD ((0 : Nat), [])).snd.length) && true) (br (ref08_List_pre (law08_TupleSorts_v0 a) ((ref08_Sort a).getD [])) (br (ref08_List (law08_TupleSorts_v0 a) ((ref08_Sort a).getD [])) (br ((tuple_Distinct a).isSome) (br ((ref08_Distinct a).isSome) (br (ref08_List_pre ((tuple_Distinct a).getD []) ((ref08_Distinct a).getD [])) (br (ref08_List ((tuple_Distinct a).getD []) ((ref08_Distinct a).getD [])) (br ((tuple_Same a b).isSome) (br ((ref08_Same a b).isSome) (br ((tuple_Same a b).getD false == (ref08_Same a b).getD false) (κ (true)) (κ (false))) (δ)) (δ)) (κ (false))) (δ)) (δ)) (δ)) (κ (false))) (δ)) (δ)) (δ)) (δ)))
noncomputable def law08_TupleSorts (a : List AV) (b : List AV) : Option (Bool) := law08_TupleSorts_t a b none some
theorem law08_TupleSorts_x (a : List AV) (b : List AV) : Enc (fun (p : Bool) => ((AV.bool p) : AV)) (law08_TupleSorts a b) (XF Tryd.prog law08_TupleSorts_E0 Tryd.f9 (Tryd.f9.body.getD .skip) [AV.list (1 : Nat) a, AV.list (1 : Nat) b]) := by
  have h : XF Tryd.prog law08_TupleSorts_E0 Tryd.f9 (Tryd.f9.body.getD .skip) [AV.list (1 : Nat) a, AV.list (1 : Nat) b] = law08_TupleSorts_t a b none (fun (p : Bool) => some ((AV.bool p) : AV)) := by kernel_rfl
  rw [h]; unfold law08_TupleSorts law08_TupleSorts_t; repeat' (first | exact Enc.none | exact Enc.some rfl | refine Enc.br ?_ ?_)
noncomputable def law08_TupleSorts_o : List AV → Option (Bool × AV) := ocOf (sCons (sList (1 : Nat) pAny) (sCons (sList (1 : Nat) pAny) sNil)) fun (a, (b, _)) => ((law08_TupleSorts a b).isSome, (AV.bool ((law08_TupleSorts a b).getD false)))
theorem law08_TupleSorts_c : OcOk Tryd.prog ITryd 9 (law08_TupleSorts_o) := ocOk_of fun vv rr hh => by
  obtain ⟨a, ⟨b, _⟩⟩ := vv
  obtain ⟨hh1, hh2⟩ := Prod.mk.inj hh
  refine good_pin (p := law08_TupleSorts_E0.pin) (good_XF mxTryd (inv0Ok Tryd.prog _) rfl law08_TupleSorts_E0_ok Tryd.func9 rfl (by kernel_rfl) law08_TupleSorts_E0_lk9 ((law08_TupleSorts_x _ _ _ (getD_of_isSome (d := false) hh1)).trans ?_))
  exact congrArg some hh2


noncomputable def EL9_1 : Env := EA8.with 9 law08_TupleSorts_o

theorem EL9_1_ok : OrcOk Tryd.prog ITryd EL9_1 := EA8_ok.with law08_TupleSorts_c

noncomputable abbrev EL9 : Env := EL9_1

theorem EL9_ok : OrcOk Tryd.prog ITryd EL9 := EL9_1_ok

end Go.Sim.M
