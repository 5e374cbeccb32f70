/- Functions of the program as the executor found them: printed by program, checked by the kernel. -/
import Derived.Test.YtpnibjljhfgjaaaDoorKC1
import Derived.Test.YtpnibjljhfgjaaaDoorPatN
set_option linter.unusedVariables false
set_option linter.unusedSimpArgs false
set_option maxRecDepth 100000
namespace Go.Sim.M
open Go.RowKit Go.Proofs

/-- The environment of bitemporal/report.Chart: its loops so far. -/

noncomputable def report_Chart_E0 : Env := EKC1.fn 73 0 (lsOf []) (lpsOf [])

theorem report_Chart_E0_ok : OrcOk Tryd.prog (ITryd.at 0) report_Chart_E0 := EKC1_ok.fn

theorem report_Chart_E0_lk8_0 : LoOk Tryd.prog (ITryd.at report_Chart_E0.pin) report_Chart_E0 (loopAt Tryd.f8 0) := loOk_nil (by kernel_rfl)

/- 21 nodes -/
noncomputable def report_Chart_l0_v0 (l : List AV) (n : Int) (w : Int) (t33 : Int) (during_0 : Int) : Option Bool := span_Covers l [AV.agg [AV.int IntKind.i64 (IntKind.i64.wrap (during_0 + IntKind.i64.wrap ((IntKind.i64.wrap (t33 * n)).tdiv w))), AV.int IntKind.i64 (IntKind.i64.wrap (during_0 + IntKind.i64.wrap ((IntKind.i64.wrap (IntKind.i64.wrap (t33 + (1 : Int)) * n)).tdiv w)))]]
noncomputable def report_Chart_l0_v1 (l : List AV) (n : Int) (w : Int) (t33 : Int) (during_0 : Int) : Option (List AV) := span_Intersect l [AV.agg [AV.int IntKind.i64 (IntKind.i64.wrap (during_0 + IntKind.i64.wrap ((IntKind.i64.wrap (t33 * n)).tdiv w))), AV.int IntKind.i64 (IntKind.i64.wrap (during_0 + IntKind.i64.wrap ((IntKind.i64.wrap (IntKind.i64.wrap (t33 + (1 : Int)) * n)).tdiv w)))]]
noncomputable def report_Chart_l0_t {T : Type} (l : List AV) (n : Int) (w : Int) (t32 : Int) (t33 : Int) (during_0 : Int) (during_1 : Int) (b_n : Nat) (buf1_xs : List AV) (δ : T) (κl : (Int × Int × Int × Nat × List AV) → T) (κr : (Nat × List AV) → T) : T := br (decide (t33 < t32)) (br (!w == (0 : Int)) (br (!w == (0 : Int)) (br ((report_Chart_l0_v1 l n w t33 during_0).isSome) (br ((↑((report_Chart_l0_v1 l n w t33 during_0).getD []).length : Int) == (0 : Int)) (br ((strings_Builder_WriteByte_U0 (46 : Int) b_n buf1_xs).isSome) (κl (IntKind.i64.wrap (t33 + (1 : Int)), during_0, during_1, ((strings_Builder_WriteByte_U0 (46 : Int) b_n buf1_xs).getD ((0 : Nat), [])).fst, ((strings_Builder_WriteByte_U0 (46 : Int) b_n buf1_xs).getD ((0 : Nat), [])).snd)) (δ)) (br ((report_Chart_l0_v0 l n w t33 during_0).isSome) (br ((report_Chart_l0_v0 l n w t33 during_0).getD false) (br ((strings_Builder_WriteByte_U0 (35 : Int) b_n buf1_xs).isSome) (κl (IntKind.i64.wrap (t33 + (1 : Int)), during_0, during_1, ((strings_Builder_WriteByte_U0 (35 : Int) b_n buf1_xs).getD ((0 : Nat), [])).fst, ((strings_Builder_WriteByte_U0 (35 : Int) b_n buf1_xs).getD ((0 : Nat), [])).snd)) (δ)) (br ((strings_Builder_WriteByte_U0 (43 : Int) b_n buf1_xs).isSome) (κl (IntKind.i64.wrap (t33 + (1 : Int)), during_0, during_1, ((strings_Builder_WriteByte_U0 (43 : Int) b_n buf1_xs).getD ((0 : Nat), [])).fst, ((strings_Builder_WriteByte_U0 (43 : Int) b_n buf1_xs).getD ((0 : Nat), [])).snd)) (δ))) (δ))) (δ)) (δ)) (δ)) (κr (b_n, buf1_xs))
noncomputable def report_Chart_l0_step (l : List AV) (n : Int) (w : Int) (t32 : Int) : (Int × Int × Int × Nat × List AV) → Option ((Int × Int × Int × Nat × List AV) ⊕ (Nat × List AV)) := fun (t33, during_0, during_1, b_n, buf1_xs) => report_Chart_l0_t l n w t32 t33 during_0 during_1 b_n buf1_xs none (fun s => some (.inl s)) (fun p => some (.inr p))
noncomputable def report_Chart_l0_L (l : List AV) (n : Int) (w : Int) (t32 : Int) : (Int × Int × Int × Nat × List AV) → List AV × List Box := fun (t33, during_0, during_1, b_n, buf1_xs) => ([AV.list (2 : Nat) l, AV.own 0 0 0 0, AV.int IntKind.i64 n, AV.int IntKind.i64 w, AV.own 1 0 0 0, AV.int IntKind.i64 t32, AV.int IntKind.i64 t33], [⟨0, (2 : Nat), (27 : Nat), [AV.agg [AV.int IntKind.i64 during_0, AV.int IntKind.i64 during_1]], false, true⟩, ⟨0, (2 : Nat), (50 : Nat), [AV.agg [AV.own 1 0 0 0, AV.osl 2 0 0 b_n]], false, false⟩, ⟨0, (1 : Nat), (5 : Nat), buf1_xs, false, true⟩])
noncomputable def report_Chart_l0_out (l : List AV) (n : Int) (w : Int) (t32 : Int) : (Nat × List AV) → LR := fun p => (.leaf (Exit.exit (0 : Nat)) [AV.own 0 0 0 0] [⟨0, (2 : Nat), (50 : Nat), [AV.agg [AV.own 0 0 0 0, AV.osl 1 0 0 p.1]], false, false⟩, ⟨0, (1 : Nat), (5 : Nat), p.2, false, true⟩])
noncomputable abbrev report_Chart_l0_X (vals : List AV) (H : List Box) := XR Tryd.prog report_Chart_E0 [0, 4, 7, 8, 9, 32, 33] [9] [] (loopAt Tryd.f8 0) vals H
theorem report_Chart_l0_r (l : List AV) (n : Int) (w : Int) (t32 : Int) (s : Int × Int × Int × Nat × List AV) : Enc (encR (report_Chart_l0_L l n w t32) (report_Chart_l0_out l n w t32)) (report_Chart_l0_step l n w t32 s) (report_Chart_l0_X (report_Chart_l0_L l n w t32 s).1 (report_Chart_l0_L l n w t32 s).2) := by
  obtain ⟨t33, during_0, during_1, b_n, buf1_xs⟩ := s
  have h : report_Chart_l0_X (report_Chart_l0_L l n w t32 (t33, during_0, during_1, b_n, buf1_xs)).1 (report_Chart_l0_L l n w t32 (t33, during_0, during_1, b_n, buf1_xs)).2 = report_Chart_l0_t l n w t32 t33 during_0 during_1 b_n buf1_xs none (fun s => some (encR (report_Chart_l0_L l n w t32) (report_Chart_l0_out l n w t32) (.inl s))) (fun p => some (encR (report_Chart_l0_L l n w t32) (report_Chart_l0_out l n w t32) (.inr p))) := by kernel_rfl
  rw [h]; unfold report_Chart_l0_step report_Chart_l0_t; repeat' (first | exact Enc.none | exact Enc.some rfl | refine Enc.br ?_ ?_)
noncomputable def report_Chart_l0_lp : Lp := lpOf [0, 4, 7, 8, 9, 32, 33] [9] [] (pCons (pList (2 : Nat) pAny) (pCons (pOwn (0 : Nat) (0 : Nat) (0 : Nat) (0 : Nat)) (pCons (pInt IntKind.i64) (pCons (pInt IntKind.i64) (pCons (pOwn (1 : Nat) (0 : Nat) (0 : Nat) (0 : Nat)) (pCons (pInt IntKind.i64) (pCons (pInt IntKind.i64) pNil))))))) (pCons (pBox (0 : Nat) (2 : Nat) (27 : Nat) false true (pCons (pAgg (pCons (pInt IntKind.i64) (pCons (pInt IntKind.i64) pNil))) pNil)) (pCons (pBox (0 : Nat) (2 : Nat) (50 : Nat) false false (pCons (pAgg (pCons (pOwn (1 : Nat) (0 : Nat) (0 : Nat) (0 : Nat)) (pCons (pOsl (2 : Nat) (0 : Nat) (0 : Nat)) pNil))) pNil)) (pCons (pBox (0 : Nat) (1 : Nat) (5 : Nat) false true pAny) pNil))) fun (l, (_, (n, (w, (_, (t32, (t33, _))))))) (((during_0, (during_1, _)), _), (((_, (b_n, _)), _), (buf1_xs, _))) => ((Iter (report_Chart_l0_step l n w t32) (t33, during_0, during_1, b_n, buf1_xs)).isSome, report_Chart_l0_out l n w t32 ((Iter (report_Chart_l0_step l n w t32) (t33, during_0, during_1, b_n, buf1_xs)).getD (0, [])))
theorem report_Chart_l0_lok : LoopOk Tryd.prog (ITryd.at report_Chart_E0.pin) report_Chart_E0.nt (loopAt Tryd.f8 0) report_Chart_l0_lp := lok_of fun vv bb rr hh => by
  obtain ⟨l, ⟨_, ⟨n, ⟨w, ⟨_, ⟨t32, ⟨t33, _⟩⟩⟩⟩⟩⟩⟩ := vv
  obtain ⟨⟨⟨during_0, ⟨during_1, _⟩⟩, _⟩, ⟨⟨⟨_, ⟨b_n, _⟩⟩, _⟩, ⟨buf1_xs, _⟩⟩⟩ := bb
  obtain ⟨hh1, rfl⟩ := Prod.mk.inj hh
  exact loop_of_XR mxTryd (inv0Ok Tryd.prog _) rfl report_Chart_E0_ok report_Chart_E0_lk8_0 (report_Chart_l0_L l n w t32) (report_Chart_l0_out l n w t32) (fun p => by simp only [report_Chart_l0_out, LR.eval]; first | (simp; done) | (repeat' split <;> simp)) (report_Chart_l0_r l n w t32) (s := (t33, during_0, during_1, b_n, buf1_xs)) (getD_of_isSome hh1)


/-- The environment of bitemporal/report.Chart: its loops so far. -/

noncomputable def report_Chart_E1 : Env := EKC1.fn 73 0 (lsOf []) (lpsOf [(7, report_Chart_l0_lp)])

theorem report_Chart_E1_ok : OrcOk Tryd.prog (ITryd.at 0) report_Chart_E1 := EKC1_ok.fn

theorem report_Chart_E1_lk8 : LoOk Tryd.prog (ITryd.at report_Chart_E1.pin) report_Chart_E1 (Tryd.f8.body.getD .skip) := loOk_all (ls := [loopAt Tryd.f8 0]) (by kernel_rfl) (fun l hl lp hs => by
  simp only [List.mem_cons, List.not_mem_nil, or_false] at hl
  rcases hl with rfl
  · rw [show report_Chart_E1.lp (codeId (loopAt Tryd.f8 0)) = some report_Chart_l0_lp by kernel_rfl] at hs
    simp only [Option.some.injEq] at hs; subst hs; exact report_Chart_l0_lok)

/- 39 nodes -/
noncomputable def report_Chart_v0 (l : List AV) (during_f : Int) (during_t : Int) (width : Int) : Int := if IntKind.i64.wrap (during_t - during_f) < width then IntKind.i64.wrap (during_t - during_f) else width
noncomputable def report_Chart_v7 (l : List AV) (during_f : Int) (during_t : Int) (width : Int) : Option Bool := span_Covers l [AV.agg [AV.int IntKind.i64 (IntKind.i64.wrap (during_f + IntKind.i64.wrap ((IntKind.i64.wrap ((0 : Int) * IntKind.i64.wrap (during_t - during_f))).tdiv (report_Chart_v0 l during_f during_t width)))), AV.int IntKind.i64 (IntKind.i64.wrap (during_f + IntKind.i64.wrap ((IntKind.i64.wrap ((1 : Int) * IntKind.i64.wrap (during_t - during_f))).tdiv (report_Chart_v0 l during_f during_t width))))]]
noncomputable def report_Chart_v8 (l : List AV) (during_f : Int) (during_t : Int) (width : Int) : Option (List AV) := span_Intersect l [AV.agg [AV.int IntKind.i64 (IntKind.i64.wrap (during_f + IntKind.i64.wrap ((IntKind.i64.wrap ((0 : Int) * IntKind.i64.wrap (during_t - during_f))).tdiv (report_Chart_v0 l during_f during_t width)))), AV.int IntKind.i64 (IntKind.i64.wrap (during_f + IntKind.i64.wrap ((IntKind.i64.wrap ((1 : Int) * IntKind.i64.wrap (during_t - during_f))).tdiv (report_Chart_v0 l during_f during_t width))))]]
noncomputable def report_Chart_v9 (l : List AV) (during_f : Int) (during_t : Int) (width : Int) : Option (Nat × List AV) := Iter (report_Chart_l0_step l (IntKind.i64.wrap (during_t - during_f)) (report_Chart_v0 l during_f during_t width) (report_Chart_v0 l during_f during_t width)) ((1 : Int), during_f, during_t, (1 : Nat), [AV.int IntKind.u8 (43 : Int)])
noncomputable def report_Chart_v10 (l : List AV) (during_f : Int) (during_t : Int) (width : Int) : Option (Nat × List AV) := Iter (report_Chart_l0_step l (IntKind.i64.wrap (during_t - during_f)) (report_Chart_v0 l during_f during_t width) (report_Chart_v0 l during_f during_t width)) ((1 : Int), during_f, during_t, (1 : Nat), [AV.int IntKind.u8 (35 : Int)])
noncomputable def report_Chart_v11 (l : List AV) (during_f : Int) (during_t : Int) (width : Int) : Option (Nat × List AV) := Iter (report_Chart_l0_step l (IntKind.i64.wrap (during_t - during_f)) (report_Chart_v0 l during_f during_t width) (report_Chart_v0 l during_f during_t width)) ((1 : Int), during_f, during_t, (1 : Nat), [AV.int IntKind.u8 (46 : Int)])
noncomputable def report_Chart_v4 (l : List AV) (during_f : Int) (during_t : Int) (width : Int) : Nat × List AV := (report_Chart_v10 l during_f during_t width).getD ((0 : Nat), [])
noncomputable def report_Chart_v5 (l : List AV) (during_f : Int) (during_t : Int) (width : Int) : Nat × List AV := (report_Chart_v9 l during_f during_t width).getD ((0 : Nat), [])
noncomputable def report_Chart_v6 (l : List AV) (during_f : Int) (during_t : Int) (width : Int) : Nat × List AV := (report_Chart_v11 l during_f during_t width).getD ((0 : Nat), [])
noncomputable def report_Chart_v1 (l : List AV) (during_f : Int) (during_t : Int) (width : Int) : List AV := (report_Chart_v5 l during_f during_t width).snd
noncomputable def report_Chart_v2 (l : List AV) (during_f : Int) (during_t : Int) (width : Int) : List AV := (report_Chart_v6 l during_f during_t width).snd
noncomputable def report_Chart_v3 (l : List AV) (during_f : Int) (during_t : Int) (width : Int) : List AV := (report_Chart_v4 l during_f during_t width).snd
noncomputable def report_Chart_t {T : Type} (l : List AV) (during_f : Int) (during_t : Int) (width : Int) (δ : T) (κ : List UInt8 → T) : T := br (!period_Valid during_f during_t) (κ ([])) (br (decide (width < (1 : Int))) (κ ([])) (br (decide (width > (200 : Int))) (κ ([])) (br (decide ((0 : Int) < report_Chart_v0 l during_f during_t width)) (br (!report_Chart_v0 l during_f during_t width == (0 : Int)) (br (!report_Chart_v0 l during_f during_t width == (0 : Int)) (br ((report_Chart_v8 l during_f during_t width).isSome) (br ((↑((report_Chart_v8 l during_f during_t width).getD []).length : Int) == (0 : Int)) (br ((report_Chart_v11 l during_f during_t width).isSome) (br (decide ((report_Chart_v6 l during_f during_t width).fst = (report_Chart_v2 l during_f during_t width).length) && isBytes (report_Chart_v2 l during_f during_t width) && decide ((report_Chart_v2 l during_f during_t width).length ≠ (0 : Nat))) (br ((report_line [] [AV.str (strOf (report_Chart_v2 l during_f during_t width))]).isSome) (κ ((report_line [] [AV.str (strOf (report_Chart_v2 l during_f during_t width))]).getD [])) (δ)) (δ)) (δ)) (br ((report_Chart_v7 l during_f during_t width).isSome) (br ((report_Chart_v7 l during_f during_t width).getD false) (br ((report_Chart_v10 l during_f during_t width).isSome) (br (decide ((report_Chart_v4 l during_f during_t width).fst = (report_Chart_v3 l during_f during_t width).length) && isBytes (report_Chart_v3 l during_f during_t width) && decide ((report_Chart_v3 l during_f during_t width).length ≠ (0 : Nat))) (br ((report_line [] [AV.str (strOf (report_Chart_v3 l during_f during_t width))]).isSome) (κ ((report_line [] [AV.str (strOf (report_Chart_v3 l during_f during_t width))]).getD [])) (δ)) (δ)) (δ)) (br ((report_Chart_v9 l during_f during_t width).isSome) (br (decide ((report_Chart_v5 l during_f during_t width).fst = (report_Chart_v1 l during_f during_t width).length) && isBytes (report_Chart_v1 l during_f during_t width) && decide ((report_Chart_v1 l during_f during_t width).length ≠ (0 : Nat))) (br ((report_line [] [AV.str (strOf (report_Chart_v1 l during_f during_t width))]).isSome) (κ ((report_line [] [AV.str (strOf (report_Chart_v1 l during_f during_t width))]).getD [])) (δ)) (δ)) (δ))) (δ))) (δ)) (δ)) (δ)) (κ ((report_line [] [AV.str []]).getD [])))))
noncomputable def report_Chart (l : List AV) (during_f : Int) (during_t : Int) (width : Int) : Option (List UInt8) := report_Chart_t l during_f during_t width none some
theorem report_Chart_x (l : List AV) (during_f : Int) (during_t : Int) (width : Int) : Enc (fun (p : List UInt8) => ((AV.str p) : AV)) (report_Chart l during_f during_t width) (XF Tryd.prog report_Chart_E1 Tryd.f8 (Tryd.f8.body.getD .skip) [AV.list (2 : Nat) l, AV.agg [AV.int IntKind.i64 during_f, AV.int IntKind.i64 during_t], AV.int IntKind.i64 width]) := by
  have h : XF Tryd.prog report_Chart_E1 Tryd.f8 (Tryd.f8.body.getD .skip) [AV.list (2 : Nat) l, AV.agg [AV.int IntKind.i64 during_f, AV.int IntKind.i64 during_t], AV.int IntKind.i64 width] = report_Chart_t l during_f during_t width none (fun (p : List UInt8) => some ((AV.str p) : AV)) := by kernel_rfl
  rw [h]; unfold report_Chart report_Chart_t; repeat' (first | exact Enc.none | exact Enc.some rfl | refine Enc.br ?_ ?_)
noncomputable def report_Chart_o : List AV → Option (Bool × AV) := ocOf (sCons (sList (2 : Nat) pAny) (sCons (sAgg (sCons (sEq (pInt IntKind.i64)) (sCons (sEq (pInt IntKind.i64)) sNil))) (sCons (sEq (pInt IntKind.i64)) sNil))) fun (l, ((during_f, (during_t, _)), (width, _))) => ((report_Chart l during_f during_t width).isSome, (AV.str ((report_Chart l during_f during_t width).getD [])))
theorem report_Chart_c : OcOk Tryd.prog ITryd 8 (report_Chart_o) := ocOk_of fun vv rr hh => by
  obtain ⟨l, ⟨⟨during_f, ⟨during_t, _⟩⟩, ⟨width, _⟩⟩⟩ := vv
  obtain ⟨hh1, hh2⟩ := Prod.mk.inj hh
  refine good_pin (p := report_Chart_E1.pin) (good_XF mxTryd (inv0Ok Tryd.prog _) rfl report_Chart_E1_ok Tryd.func8 rfl (by kernel_rfl) report_Chart_E1_lk8 ((report_Chart_x _ _ _ _ _ (getD_of_isSome (d := []) hh1)).trans ?_))
  exact congrArg some hh2


noncomputable def EKC2_1 : Env := EKC1.with 8 report_Chart_o

theorem EKC2_1_ok : OrcOk Tryd.prog ITryd EKC2_1 := EKC1_ok.with report_Chart_c

noncomputable abbrev EKC2 : Env := EKC2_1

theorem EKC2_ok : OrcOk Tryd.prog ITryd EKC2 := EKC2_1_ok

end Go.Sim.M
