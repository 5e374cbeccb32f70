/- Functions of the program as the executor found them: printed by program, checked by the kernel. -/
import Derived.Test.YtpnibjljhfgjaaaDoorKA
set_option linter.unusedVariables false
set_option linter.unusedSimpArgs false
set_option maxRecDepth 100000
namespace Go.Sim.M
open Go.RowKit Go.Proofs

/-- The environment of bitemporal/bitemporallaw55.ReportErrors: its loops so far. -/

noncomputable def law55_ReportErrors_E0 : Env := EKA.fn 11 0 (lsOf []) (lpsOf [])

theorem law55_ReportErrors_E0_ok : OrcOk Tryd.prog (ITryd.at 0) law55_ReportErrors_E0 := EKA_ok.fn

theorem law55_ReportErrors_E0_lk3 : LoOk Tryd.prog (ITryd.at law55_ReportErrors_E0.pin) law55_ReportErrors_E0 (Tryd.f3.body.getD .skip) := loOk_nil (by kernel_rfl)

/- 7 nodes -/
noncomputable def law55_ReportErrors_t {T : Type} (e : Int) (δ : T) (κ : Bool → T) : T := br ((report_Error e).isSome) (br ((ref55_Error e).isSome) (br ((report_Error e).getD [] == (ref55_Error e).getD []) (κ (true)) (κ (false))) (δ)) (δ)
noncomputable def law55_ReportErrors (e : Int) : Option (Bool) := law55_ReportErrors_t e none some
theorem law55_ReportErrors_x (e : Int) : Enc (fun (p : Bool) => ((AV.bool p) : AV)) (law55_ReportErrors e) (XF Tryd.prog law55_ReportErrors_E0 Tryd.f3 (Tryd.f3.body.getD .skip) [AV.int IntKind.i64 e]) := by
  have h : XF Tryd.prog law55_ReportErrors_E0 Tryd.f3 (Tryd.f3.body.getD .skip) [AV.int IntKind.i64 e] = law55_ReportErrors_t e none (fun (p : Bool) => some ((AV.bool p) : AV)) := by kernel_rfl
  rw [h]; unfold law55_ReportErrors law55_ReportErrors_t; repeat' (first | exact Enc.none | exact Enc.some rfl | refine Enc.br ?_ ?_)
noncomputable def law55_ReportErrors_o : List AV → Option (Bool × AV) := ocOf (sCons (sEq (pInt IntKind.i64)) sNil) fun (e, _) => ((law55_ReportErrors e).isSome, (AV.bool ((law55_ReportErrors e).getD false)))
theorem law55_ReportErrors_c : OcOk Tryd.prog ITryd 3 (law55_ReportErrors_o) := ocOk_of fun vv rr hh => by
  obtain ⟨e, _⟩ := vv
  obtain ⟨hh1, hh2⟩ := Prod.mk.inj hh
  refine good_pin (p := law55_ReportErrors_E0.pin) (good_XF mxTryd (inv0Ok Tryd.prog _) rfl law55_ReportErrors_E0_ok Tryd.func3 rfl (by kernel_rfl) law55_ReportErrors_E0_lk3 ((law55_ReportErrors_x _ _ (getD_of_isSome (d := false) hh1)).trans ?_))
  exact congrArg some hh2


noncomputable def EKL_1 : Env := EKA.with 3 law55_ReportErrors_o

theorem EKL_1_ok : OrcOk Tryd.prog ITryd EKL_1 := EKA_ok.with law55_ReportErrors_c

noncomputable abbrev EKL : Env := EKL_1

theorem EKL_ok : OrcOk Tryd.prog ITryd EKL := EKL_1_ok

end Go.Sim.M
