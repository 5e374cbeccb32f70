/- Functions of the program as the executor found them: printed by program, checked by the kernel. -/
import Derived.Test.YtpnibjljhfgjaaaGreatDoorKCA
import Derived.Test.YtpnibjljhfgjaaaGreatDoorPatN
set_option linter.unusedVariables false
set_option linter.unusedSimpArgs false
set_option maxRecDepth 100000
namespace Go.Sim.M
open Go.RowKit Go.Proofs

/-- The environment of bitemporal/bitemporallaw55.ReportCharts: its loops so far. -/

noncomputable def law55_ReportCharts_E0 : Env := EKCA.fn 23 0 (lsOf []) (lpsOf [])

theorem law55_ReportCharts_E0_ok : OrcOk Tryz.prog (ITryz.at 0) law55_ReportCharts_E0 := EKCA_ok.fn

theorem law55_ReportCharts_E0_lk4 : LoOk Tryz.prog (ITryz.at law55_ReportCharts_E0.pin) law55_ReportCharts_E0 (Tryz.f4.body.getD .skip) := loOk_nil (by kernel_rfl)

/- 9 nodes -/
noncomputable def law55_ReportCharts_t {T : Type} (l : List AV) (during_f : Int) (during_t : Int) (width : Int) (δ : T) (κ : Bool → T) : T := br (decide ((↑l.length : Int) > (100 : Int))) (κ (true)) (br ((report_Chart l during_f during_t width).isSome) (br ((ref55_Chart l during_f during_t width).isSome) (br ((report_Chart l during_f during_t width).getD [] == (ref55_Chart l during_f during_t width).getD []) (κ (true)) (κ (false))) (δ)) (δ))
noncomputable def law55_ReportCharts (l : List AV) (during_f : Int) (during_t : Int) (width : Int) : Option (Bool) := law55_ReportCharts_t l during_f during_t width none some
theorem law55_ReportCharts_x (l : List AV) (during_f : Int) (during_t : Int) (width : Int) : Enc (fun (p : Bool) => ((AV.bool p) : AV)) (law55_ReportCharts l during_f during_t width) (XF Tryz.prog law55_ReportCharts_E0 Tryz.f4 (Tryz.f4.body.getD .skip) [AV.list (2 : Nat) l, AV.agg [AV.int IntKind.i64 during_f, AV.int IntKind.i64 during_t], AV.int IntKind.i64 width]) := by
  have h : XF Tryz.prog law55_ReportCharts_E0 Tryz.f4 (Tryz.f4.body.getD .skip) [AV.list (2 : Nat) l, AV.agg [AV.int IntKind.i64 during_f, AV.int IntKind.i64 during_t], AV.int IntKind.i64 width] = law55_ReportCharts_t l during_f during_t width none (fun (p : Bool) => some ((AV.bool p) : AV)) := by kernel_rfl
  rw [h]; unfold law55_ReportCharts law55_ReportCharts_t; repeat' (first | exact Enc.none | exact Enc.some rfl | refine Enc.br ?_ ?_)
noncomputable def law55_ReportCharts_o : List AV → Option (Bool × AV) := ocOf (sCons (sList (2 : Nat) pAny) (sCons (sAgg (sCons (sEq (pInt IntKind.i64)) (sCons (sEq (pInt IntKind.i64)) sNil))) (sCons (sEq (pInt IntKind.i64)) sNil))) fun (l, ((during_f, (during_t, _)), (width, _))) => ((law55_ReportCharts l during_f during_t width).isSome, (AV.bool ((law55_ReportCharts l during_f during_t width).getD false)))
theorem law55_ReportCharts_c : OcOk Tryz.prog ITryz 4 (law55_ReportCharts_o) := ocOk_of fun vv rr hh => by
  obtain ⟨l, ⟨⟨during_f, ⟨during_t, _⟩⟩, ⟨width, _⟩⟩⟩ := vv
  obtain ⟨hh1, hh2⟩ := Prod.mk.inj hh
  refine good_pin (p := law55_ReportCharts_E0.pin) (good_XF mxTryz (inv0Ok Tryz.prog _) rfl law55_ReportCharts_E0_ok Tryz.func4 rfl (by kernel_rfl) law55_ReportCharts_E0_lk4 ((law55_ReportCharts_x _ _ _ _ _ (getD_of_isSome (d := false) hh1)).trans ?_))
  exact congrArg some hh2


noncomputable def EKCL_1 : Env := EKCA.with 4 law55_ReportCharts_o

theorem EKCL_1_ok : OrcOk Tryz.prog ITryz EKCL_1 := EKCA_ok.with law55_ReportCharts_c

noncomputable abbrev EKCL : Env := EKCL_1

theorem EKCL_ok : OrcOk Tryz.prog ITryz EKCL := EKCL_1_ok

end Go.Sim.M
