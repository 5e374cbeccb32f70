/- Functions of the program as the executor found them: printed by program, checked by the kernel. -/
import Derived.Test.YtpnibjljhfgjaaaDoorKCA
import Derived.Test.YtpnibjljhfgjaaaDoorPatN
set_option linter.unusedVariables false
set_option linter.unusedSimpArgs false
set_option maxRecDepth 100000
namespace Go.Sim.M
open Go.RowKit Go.Proofs

/-- The environment of bitemporal/bitemporallaw55.ReportEmpty: its loops so far. -/

noncomputable def law55_ReportEmpty_E0 : Env := EKCA.fn 84 0 (lsOf []) (lpsOf [])

theorem law55_ReportEmpty_E0_ok : OrcOk Tryd.prog (ITryd.at 0) law55_ReportEmpty_E0 := EKCA_ok.fn

theorem law55_ReportEmpty_E0_lk4_0 : LoOk Tryd.prog (ITryd.at law55_ReportEmpty_E0.pin) law55_ReportEmpty_E0 (loopAt Tryd.f4 0) := loOk_nil (by kernel_rfl)

/- 11 nodes -/
noncomputable def law55_ReportEmpty_l0_t {T : Type} (a : List UInt8) (b : List UInt8) (n : Int) (t56 : Int) (t57 : Int) (δ : T) (κl : (Int) → T) (κr : (Bool × (Bool) × (Unit)) → T) : T := br (decide (t57 < t56)) (br (decide ((0 : Int) ≤ t57) && decide (t57 < (↑a.length : Int))) (br ((↑(a.getD t57.toNat (0 : UInt8)).toNat : Int) != (46 : Int)) (κr (true, (false), ())) (br (decide ((0 : Int) ≤ t57) && decide (t57 < (↑b.length : Int))) (br ((↑(b.getD t57.toNat (0 : UInt8)).toNat : Int) != (35 : Int)) (κr (true, (false), ())) (κl (IntKind.i64.wrap (t57 + (1 : Int))))) (δ))) (δ)) (κr (false, false, ()))
noncomputable def law55_ReportEmpty_l0_step (a : List UInt8) (b : List UInt8) (n : Int) (t56 : Int) : (Int) → Option ((Int) ⊕ (Bool × (Bool) × (Unit))) := fun (t57) => law55_ReportEmpty_l0_t a b n t56 t57 none (fun s => some (.inl s)) (fun p => some (.inr p))
noncomputable def law55_ReportEmpty_l0_L (a : List UInt8) (b : List UInt8) (n : Int) (t56 : Int) : (Int) → List AV × List Box := fun (t57) => ([AV.str a, AV.str b, AV.int IntKind.i64 n, AV.int IntKind.i64 t56, AV.int IntKind.i64 t57], [])
noncomputable def law55_ReportEmpty_l0_out (a : List UInt8) (b : List UInt8) (n : Int) (t56 : Int) : (Bool × (Bool) × (Unit)) → LR := fun p => (.node p.1 (.leaf (Exit.ret) [AV.bool p.2.1, AV.str a, AV.str b, AV.int IntKind.i64 n] []) (.leaf (Exit.exit (0 : Nat)) [AV.top, AV.str a, AV.str b, AV.int IntKind.i64 n] []))
noncomputable abbrev law55_ReportEmpty_l0_X (vals : List AV) (H : List Box) := XR Tryd.prog law55_ReportEmpty_E0 [5, 6, 7, 56, 57] [4, 5, 6, 7] [] (loopAt Tryd.f4 0) vals H
theorem law55_ReportEmpty_l0_r (a : List UInt8) (b : List UInt8) (n : Int) (t56 : Int) (t57 : Int) : Enc (encR (law55_ReportEmpty_l0_L a b n t56) (law55_ReportEmpty_l0_out a b n t56)) (law55_ReportEmpty_l0_step a b n t56 t57) (law55_ReportEmpty_l0_X (law55_ReportEmpty_l0_L a b n t56 t57).1 (law55_ReportEmpty_l0_L a b n t56 t57).2) := by
  have h : law55_ReportEmpty_l0_X (law55_ReportEmpty_l0_L a b n t56 t57).1 (law55_ReportEmpty_l0_L a b n t56 t57).2 = law55_ReportEmpty_l0_t a b n t56 t57 none (fun s => some (encR (law55_ReportEmpty_l0_L a b n t56) (law55_ReportEmpty_l0_out a b n t56) (.inl s))) (fun p => some (encR (law55_ReportEmpty_l0_L a b n t56) (law55_ReportEmpty_l0_out a b n t56) (.inr p))) := by kernel_rfl
  rw [h]; unfold law55_ReportEmpty_l0_step law55_ReportEmpty_l0_t; repeat' (first | exact Enc.none | exact Enc.some rfl | refine Enc.br ?_ ?_)
noncomputable def law55_ReportEmpty_l0_lp : Lp := lpOf [5, 6, 7, 56, 57] [4, 5, 6, 7] [] (pCons pStr (pCons pStr (pCons (pInt IntKind.i64) (pCons (pInt IntKind.i64) (pCons (pInt IntKind.i64) pNil))))) pNil fun (a, (b, (n, (t56, (t57, _))))) _ => ((Iter (law55_ReportEmpty_l0_step a b n t56) (t57)).isSome, law55_ReportEmpty_l0_out a b n t56 ((Iter (law55_ReportEmpty_l0_step a b n t56) (t57)).getD (false, false, ())))
theorem law55_ReportEmpty_l0_lok : LoopOk Tryd.prog (ITryd.at law55_ReportEmpty_E0.pin) law55_ReportEmpty_E0.nt (loopAt Tryd.f4 0) law55_ReportEmpty_l0_lp := lok_of fun vv bb rr hh => by
  obtain ⟨a, ⟨b, ⟨n, ⟨t56, ⟨t57, _⟩⟩⟩⟩⟩ := vv
  obtain ⟨hh1, rfl⟩ := Prod.mk.inj hh
  exact loop_of_XR mxTryd (inv0Ok Tryd.prog _) rfl law55_ReportEmpty_E0_ok law55_ReportEmpty_E0_lk4_0 (law55_ReportEmpty_l0_L a b n t56) (law55_ReportEmpty_l0_out a b n t56) (fun p => by simp only [law55_ReportEmpty_l0_out, LR.eval]; first | (simp; done) | (repeat' split <;> simp)) (law55_ReportEmpty_l0_r a b n t56) (s := (t57)) (getD_of_isSome hh1)


/-- The environment of bitemporal/bitemporallaw55.ReportEmpty: its loops so far. -/

noncomputable def law55_ReportEmpty_E1 : Env := EKCA.fn 84 0 (lsOf []) (lpsOf [(9, law55_ReportEmpty_l0_lp)])

theorem law55_ReportEmpty_E1_ok : OrcOk Tryd.prog (ITryd.at 0) law55_ReportEmpty_E1 := EKCA_ok.fn

theorem law55_ReportEmpty_E1_lk4 : LoOk Tryd.prog (ITryd.at law55_ReportEmpty_E1.pin) law55_ReportEmpty_E1 (Tryd.f4.body.getD .skip) := loOk_all (ls := [loopAt Tryd.f4 0]) (by kernel_rfl) (fun l hl lp hs => by
  simp only [List.mem_cons, List.not_mem_nil, or_false] at hl
  rcases hl with rfl
  · rw [show law55_ReportEmpty_E1.lp (codeId (loopAt Tryd.f4 0)) = some law55_ReportEmpty_l0_lp by kernel_rfl] at hs
    simp only [Option.some.injEq] at hs; subst hs; exact law55_ReportEmpty_l0_lok)

/- 39 nodes -/
noncomputable def law55_ReportEmpty_v0 (during_f : Int) (during_t : Int) (width : Int) : Int := if IntKind.i64.wrap (during_t - during_f) < width then IntKind.i64.wrap (during_t - during_f) else width
noncomputable def law55_ReportEmpty_v3 (during_f : Int) (during_t : Int) (width : Int) : List UInt8 := (report_Chart [AV.agg [AV.int IntKind.i64 during_f, AV.int IntKind.i64 during_t]] during_f during_t width).getD []
noncomputable def law55_ReportEmpty_v1 (during_f : Int) (during_t : Int) (width : Int) : Bool := decide ((0 : Int) ≤ law55_ReportEmpty_v0 during_f during_t width)
noncomputable def law55_ReportEmpty_v2 (during_f : Int) (during_t : Int) (width : Int) : Bool × Bool × Unit := (Iter (law55_ReportEmpty_l0_step ((report_Chart [] during_f during_t width).getD []) (law55_ReportEmpty_v3 during_f during_t width) (law55_ReportEmpty_v0 during_f during_t width) (law55_ReportEmpty_v0 during_f during_t width)) (0 : Int)).getD (false, false, ())
noncomputable def law55_ReportEmpty_t {T : Type} (during_f : Int) (during_t : Int) (width : Int) (δ : T) (κ : Bool → T) : T := br ((report_Chart [] during_f during_t width).isSome) (br ((report_Chart [AV.agg [AV.int IntKind.i64 during_f, AV.int IntKind.i64 during_t]] during_f during_t width).isSome) (br (!ref01_Valid during_f during_t) (br ((report_Chart [] during_f during_t width).getD [] == []) (br (law55_ReportEmpty_v3 during_f during_t width == []) (κ (true)) (κ (false))) (κ (false))) (br (decide (width < (1 : Int))) (br ((report_Chart [] during_f during_t width).getD [] == []) (br (law55_ReportEmpty_v3 during_f during_t width == []) (κ (true)) (κ (false))) (κ (false))) (br (decide (width > (200 : Int))) (br ((report_Chart [] during_f during_t width).getD [] == []) (br (law55_ReportEmpty_v3 during_f during_t width == []) (κ (true)) (κ (false))) (κ (false))) (br ((↑((report_Chart [] during_f during_t width).getD []).length : Int) != IntKind.i64.wrap (law55_ReportEmpty_v0 during_f during_t width + (1 : Int))) (κ (false)) (br ((↑(law55_ReportEmpty_v3 during_f during_t width).length : Int) != IntKind.i64.wrap (law55_ReportEmpty_v0 during_f during_t width + (1 : Int))) (κ (false)) (br ((Iter (law55_ReportEmpty_l0_step ((report_Chart [] during_f during_t width).getD []) (law55_ReportEmpty_v3 during_f during_t width) (law55_ReportEmpty_v0 during_f during_t width) (law55_ReportEmpty_v0 during_f during_t width)) (0 : Int)).isSome) (br ((law55_ReportEmpty_v2 during_f during_t width).fst) (κ ((law55_ReportEmpty_v2 during_f during_t width).snd.fst)) (br (law55_ReportEmpty_v1 during_f during_t width && decide (law55_ReportEmpty_v0 during_f during_t width < (↑((report_Chart [] during_f during_t width).getD []).length : Int))) (br ((↑(((report_Chart [] during_f during_t width).getD []).getD (law55_ReportEmpty_v0 during_f during_t width).toNat (0 : UInt8)).toNat : Int) == (10 : Int)) (br (law55_ReportEmpty_v1 during_f during_t width && decide (law55_ReportEmpty_v0 during_f during_t width < (↑(law55_ReportEmpty_v3 during_f during_t width).length : Int))) (br ((↑((law55_ReportEmpty_v3 during_f during_t width).getD (law55_ReportEmpty_v0 during_f during_t width).toNat (0 : UInt8)).toNat : Int) == (10 : Int)) (κ (true)) (κ (false))) (δ)) (κ (false))) (δ))) (δ))))))) (δ)) (δ)
noncomputable def law55_ReportEmpty (during_f : Int) (during_t : Int) (width : Int) : Option (Bool) := law55_ReportEmpty_t during_f during_t width none some
theorem law55_ReportEmpty_x (during_f : Int) (during_t : Int) (width : Int) : Enc (fun (p : Bool) => ((AV.bool p) : AV)) (law55_ReportEmpty during_f during_t width) (XF Tryd.prog law55_ReportEmpty_E1 Tryd.f4 (Tryd.f4.body.getD .skip) [AV.agg [AV.int IntKind.i64 during_f, AV.int IntKind.i64 during_t], AV.int IntKind.i64 width]) := by
  have h : XF Tryd.prog law55_ReportEmpty_E1 Tryd.f4 (Tryd.f4.body.getD .skip) [AV.agg [AV.int IntKind.i64 during_f, AV.int IntKind.i64 during_t], AV.int IntKind.i64 width] = law55_ReportEmpty_t during_f during_t width none (fun (p : Bool) => some ((AV.bool p) : AV)) := by kernel_rfl
  rw [h]; unfold law55_ReportEmpty law55_ReportEmpty_t; repeat' (first | exact Enc.none | exact Enc.some rfl | refine Enc.br ?_ ?_)
noncomputable def law55_ReportEmpty_o : List AV → Option (Bool × AV) := ocOf (sCons (sAgg (sCons (sEq (pInt IntKind.i64)) (sCons (sEq (pInt IntKind.i64)) sNil))) (sCons (sEq (pInt IntKind.i64)) sNil)) fun ((during_f, (during_t, _)), (width, _)) => ((law55_ReportEmpty during_f during_t width).isSome, (AV.bool ((law55_ReportEmpty during_f during_t width).getD false)))
theorem law55_ReportEmpty_c : OcOk Tryd.prog ITryd 4 (law55_ReportEmpty_o) := ocOk_of fun vv rr hh => by
  obtain ⟨⟨during_f, ⟨during_t, _⟩⟩, ⟨width, _⟩⟩ := vv
  obtain ⟨hh1, hh2⟩ := Prod.mk.inj hh
  refine good_pin (p := law55_ReportEmpty_E1.pin) (good_XF mxTryd (inv0Ok Tryd.prog _) rfl law55_ReportEmpty_E1_ok Tryd.func4 rfl (by kernel_rfl) law55_ReportEmpty_E1_lk4 ((law55_ReportEmpty_x _ _ _ _ (getD_of_isSome (d := false) hh1)).trans ?_))
  exact congrArg some hh2


noncomputable def EKCL_1 : Env := EKCA.with 4 law55_ReportEmpty_o

theorem EKCL_1_ok : OrcOk Tryd.prog ITryd EKCL_1 := EKCA_ok.with law55_ReportEmpty_c

noncomputable abbrev EKCL : Env := EKCL_1

theorem EKCL_ok : OrcOk Tryd.prog ITryd EKCL := EKCL_1_ok

end Go.Sim.M
