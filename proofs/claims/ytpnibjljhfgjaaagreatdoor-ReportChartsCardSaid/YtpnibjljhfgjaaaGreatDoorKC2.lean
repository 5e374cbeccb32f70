/- Functions of the program as the executor found them: printed by program, checked by the kernel. -/
import Derived.Test.YtpnibjljhfgjaaaGreatDoorKC1
import Derived.Test.YtpnibjljhfgjaaaGreatDoorPatN
set_option linter.unusedVariables false
set_option linter.unusedSimpArgs false
set_option maxRecDepth 100000
namespace Go.Sim.M
open Go.RowKit Go.Proofs

/-- The environment of bitemporal/report.Chart: its loops so far. -/

noncomputable def report_Chart_E0 : Env := EKC1.fn 73 0 (lsOf []) (lpsOf [])

theorem report_Chart_E0_ok : OrcOk Tryz.prog (ITryz.at 0) report_Chart_E0 := EKC1_ok.fn

theorem report_Chart_E0_lk13_0 : LoOk Tryz.prog (ITryz.at report_Chart_E0.pin) report_Chart_E0 (loopAt Tryz.f13 0) := loOk_nil (by kernel_rfl)

/- 21 nodes -/
noncomputable def report_Chart_l0_v0 (l : List AV) (n : Int) (w : Int) (t33 : Int) (during_0 : Int) : Option Bool := span_Covers l [AV.agg [AV.int IntKind.i64 (IntKind.i64.wrap (during_0 + IntKind.i64.wrap ((IntKind.i64.wrap (t33 * n)).tdiv w))), AV.int IntKind.i64 (IntKind.i64.wrap (during_0 + IntKind.i64.wrap ((IntKind.i64.wrap (IntKind.i64.wrap (t33 + (1 : Int)) * n)).tdiv w)))]]
noncomputable def report_Chart_l0_v1 (l : List AV) (n : Int) (w : Int) (t33 : Int) (during_0 : Int) : Option (List AV) := span_Intersect l [AV.agg [AV.int IntKind.i64 (IntKind.i64.wrap (during_0 + IntKind.i64.wrap ((IntKind.i64.wrap (t33 * n)).tdiv w))), AV.int IntKind.i64 (IntKind.i64.wrap (during_0 + IntKind.i64.wrap ((IntKind.i64.wrap (IntKind.i64.wrap (t33 + (1 : Int)) * n)).tdiv w)))]]
noncomputable def report_Chart_l0_t {T : Type} (l : List AV) (n : Int) (w : Int) (t32 : Int) (t33 : Int) (during_0 : Int) (during_1 : Int) (b_n : Nat) (buf1_xs : List AV) (δ : T) (κl : (Int × Int × Int × Nat × List AV) → T) (κr : (Nat × List AV) → T) : T := br (decide (t33 < t32)) (br (!w == (0 : Int)) (br (!w == (0 : Int)) (br ((report_Chart_l0_v1 l n w t33 during_0).isSome) (br ((↑((report_Chart_l0_v1 l n w t33 during_0).getD []).length : Int) == (0 : Int)) (br ((strings_Builder_WriteByte_U0 (46 : Int) b_n buf1_xs).isSome) (κl (IntKind.i64.wrap (t33 + (1 : Int)), during_0, during_1, ((strings_Builder_WriteByte_U0 (46 : Int) b_n buf1_xs).getD ((0 : Nat), [])).fst, ((strings_Builder_WriteByte_U0 (46 : Int) b_n buf1_xs).getD ((0 : Nat), [])).snd)) (δ)) (br ((report_Chart_l0_v0 l n w t33 during_0).isSome) (br ((report_Chart_l0_v0 l n w t33 during_0).getD false) (br ((strings_Builder_WriteByte_U0 (35 : Int) b_n buf1_xs).isSome) (κl (IntKind.i64.wrap (t33 + (1 : Int)), during_0, during_1, ((strings_Builder_WriteByte_U0 (35 : Int) b_n buf1_xs).getD ((0 : Nat), [])).fst, ((strings_Builder_WriteByte_U0 (35 : Int) b_n buf1_xs).getD ((0 : Nat), [])).snd)) (δ)) (br ((strings_Builder_WriteByte_U0 (43 : Int) b_n buf1_xs).isSome) (κl (IntKind.i64.wrap (t33 + (1 : Int)), during_0, during_1, ((strings_Builder_WriteByte_U0 (43 : Int) b_n buf1_xs).getD ((0 : Nat), [])).fst, ((strings_Builder_WriteByte_U0 (43 : Int) b_n buf1_xs).getD ((0 : Nat), [])).snd)) (δ))) (δ))) (δ)) (δ)) (δ)) (κr (b_n, buf1_xs))
noncomputable def report_Chart_l0_step (l : List AV) (n : Int) (w : Int) (t32 : Int) : (Int × Int × Int × Nat × List AV) → Option ((Int × Int × Int × Nat × List AV) ⊕ (Nat × List AV)) := fun (t33, during_0, during_1, b_n, buf1_xs) => report_Chart_l0_t l n w t32 t33 during_0 during_1 b_n buf1_xs none (fun s => some (.inl s)) (fun p => some (.inr p))
noncomputable def report_Chart_l0_L (l : List AV) (n : Int) (w : Int) (t32 : Int) : (Int × Int × Int × Nat × List AV) → List AV × List Box := fun (t33, during_0, during_1, b_n, buf1_xs) => ([AV.list (2 : Nat) l, AV.own 0 0 0 0, AV.int IntKind.i64 n, AV.int IntKind.i64 w, AV.own 1 0 0 0, AV.int IntKind.i64 t32, AV.int IntKind.i64 t33], [⟨0, (2 : Nat), (33 : Nat), [AV.agg [AV.int IntKind.i64 during_0, AV.int IntKind.i64 during_1]], false, true⟩, ⟨0, (2 : Nat), (74 : Nat), [AV.agg [AV.own 1 0 0 0, AV.osl 2 0 0 b_n]], false, false⟩, ⟨0, (1 : Nat), (5 : Nat), buf1_xs, false, true⟩])
noncomputable def report_Chart_l0_out (l : List AV) (n : Int) (w : Int) (t32 : Int) : (Nat × List AV) → LR := fun p => (.leaf (Exit.exit (0 : Nat)) [AV.own 0 0 0 0] [⟨0, (2 : Nat), (74 : Nat), [AV.agg [AV.own 0 0 0 0, AV.osl 1 0 0 p.1]], false, false⟩, ⟨0, (1 : Nat), (5 : Nat), p.2, false, true⟩])
noncomputable abbrev report_Chart_l0_X (vals : List AV) (H : List Box) := XR Tryz.prog report_Chart_E0 [0, 4, 7, 8, 9, 32, 33] [9] [] (loopAt Tryz.f13 0) vals H
theorem report_Chart_l0_r (l : List AV) (n : Int) (w : Int) (t32 : Int) (s : Int × Int × Int × Nat × List AV) : Enc (encR (report_Chart_l0_L l n w t32) (report_Chart_l0_out l n w t32)) (report_Chart_l0_step l n w t32 s) (report_Chart_l0_X (report_Chart_l0_L l n w t32 s).1 (report_Chart_l0_L l n w t32 s).2) := by
  obtain ⟨t33, during_0, during_1, b_n, buf1_xs⟩ := s
  have h : report_Chart_l0_X (report_Chart_l0_L l n w t32 (t33, during_0, during_1, b_n, buf1_xs)).1 (report_Chart_l0_L l n w t32 (t33, during_0, during_1, b_n, buf1_xs)).2 = report_Chart_l0_t l n w t32 t33 during_0 during_1 b_n buf1_xs none (fun s => some (encR (report_Chart_l0_L l n w t32) (report_Chart_l0_out l n w t32) (.inl s))) (fun p => some (encR (report_Chart_l0_L l n w t32) (report_Chart_l0_out l n w t32) (.inr p))) := by kernel_rfl
  rw [h]; unfold report_Chart_l0_step report_Chart_l0_t; repeat' (first | exact Enc.none | exact Enc.some rfl | refine Enc.br ?_ ?_)
noncomputable def report_Chart_l0_lp : Lp := lpOf [0, 4, 7, 8, 9, 32, 33] [9] [] (pCons (pList (2 : Nat) pAny) (pCons (pOwn (0 : Nat) (0 : Nat) (0 : Nat) (0 : Nat)) (pCons (pInt IntKind.i64) (pCons (pInt IntKind.i64) (pCons (pOwn (1 : Nat) (0 : Nat) (0 : Nat) (0 : Nat)) (pCons (pInt IntKind.i64) (pCons (pInt IntKind.i64) pNil))))))) (pCons (pBox (0 : Nat) (2 : Nat) (33 : Nat) false true (pCons (pAgg (pCons (pInt IntKind.i64) (pCons (pInt IntKind.i64) pNil))) pNil)) (pCons (pBox (0 : Nat) (2 : Nat) (74 : Nat) false false (pCons (pAgg (pCons (pOwn (1 : Nat) (0 : Nat) (0 : Nat) (0 : Nat)) (pCons (pOsl (2 : Nat) (0 : Nat) (0 : Nat)) pNil))) pNil)) (pCons (pBox (0 : Nat) (1 : Nat) (5 : Nat) false true pAny) pNil))) fun (l, (_, (n, (w, (_, (t32, (t33, _))))))) (((during_0, (during_1, _)), _), (((_, (b_n, _)), _), (buf1_xs, _))) => ((Iter (report_Chart_l0_step l n w t32) (t33, during_0, during_1, b_n, buf1_xs)).isSome, report_Chart_l0_out l n w t32 ((Iter (report_Chart_l0_step l n w t32) (t33, during_0, during_1, b_n, buf1_xs)).getD (0, [])))
theorem report_Chart_l0_lok : LoopOk Tryz.prog (ITryz.at report_Chart_E0.pin) report_Chart_E0.nt (loopAt Tryz.f13 0) report_Chart_l0_lp := lok_of fun vv bb rr hh => by
  obtain ⟨l, ⟨_, ⟨n, ⟨w, ⟨_, ⟨t32, ⟨t33, _⟩⟩⟩⟩⟩⟩⟩ := vv
  obtain ⟨⟨⟨during_0, ⟨during_1, _⟩⟩, _⟩, ⟨⟨⟨_, ⟨b_n, _⟩⟩, _⟩, ⟨buf1_xs, _⟩⟩⟩ := bb
  obtain ⟨hh1, rfl⟩ := Prod.mk.inj hh
  exact loop_of_XR mxTryz (inv0Ok Tryz.prog _) rfl report_Chart_E0_ok report_Chart_E0_lk13_0 (report_Chart_l0_L l n w t32) (report_Chart_l0_out l n w t32) (fun p => by simp only [report_Chart_l0_out, LR.eval]; first | (simp; done) | (repeat' split <;> simp)) (report_Chart_l0_r l n w t32) (s := (t33, during_0, during_1, b_n, buf1_xs)) (getD_of_isSome hh1)


/-- The environment of bitemporal/report.Chart: its loops so far. -/

noncomputable def report_Chart_E1 : Env := EKC1.fn 73 0 (lsOf []) (lpsOf [(7, report_Chart_l0_lp)])

theorem report_Chart_E1_ok : OrcOk Tryz.prog (ITryz.at 0) report_Chart_E1 := EKC1_ok.fn

theorem report_Chart_E1_lk13 : LoOk Tryz.prog (ITryz.at report_Chart_E1.pin) report_Chart_E1 (Tryz.f13.body.getD .skip) := loOk_all (ls := [loopAt Tryz.f13 0]) (by kernel_rfl) (fun l hl lp hs => by
  simp only [List.mem_cons, List.not_mem_nil, or_false] at hl
  rcases hl with rfl
  · rw [show report_Chart_E1.lp (codeId (loopAt Tryz.f13 0)) = some report_Chart_l0_lp by kernel_rfl] at hs
    simp only [Option.some.injEq] at hs; subst hs; exact report_Chart_l0_lok)

/- 39 nodes -/
noncomputable def report_Chart_v0 (l : List AV) (during_f : Int) (during_t : Int) (width : Int) : Int := if IntKind.i64.wrap (during_t - during_f) < width then IntKind.i64.wrap (during_t - during_f) else width
noncomputable def report_Chart_v7 (l : List AV) (during_f : Int) (during_t : Int) (width : Int) : Option Bool := span_Covers l [AV.agg [AV.int IntKind.i64 (IntKind.i64.wrap (during_f + IntKind.i64.wrap ((IntKind.i64.wrap ((0 : Int) * IntKind.i64.wrap (during_t - during_f))).tdiv (report_Chart_v0 l during_f during_t width)))), AV.int IntKind.i64 (IntKind.i64.wrap (during_f + IntKind.i64.wrap ((IntKind.i64.wrap ((1 : Int) * IntKind.i64.wrap (during_t - during_f))).tdiv (report_Chart_v0 l during_f during_t width))))]]
noncomputable def report_Chart_v8 (l : List AV) (during_f : Int) (during_t : Int) (width : Int) : Option (List AV) := span_Intersect l [AV.agg [AV.int IntKind.i64 (IntKind.i64.wrap (during_f + IntKind.i64.wrap ((IntKind.i64.wrap ((0 : Int) * IntKind.i64.wrap (during_t - during_f))).tdiv (report_Chart_v0 l during_f during_t width)))), AV.int IntKind.i64 (IntKind.i64.wrap (during_f + IntKind.i64.wrap ((IntKind.i64.wrap ((1 : Int) * IntKind.i64.wrap (during_t - during_f))).tdiv (report_Chart_v0 l during_f during_t width))))]]
noncomputable def report_Chart_v9 (l : List AV) (during_f : Int) (during_t : Int) (width : Int) : Option (Nat × List AV) := Iter (report_Chart_l0_step l (IntKind.i64.wrap (during_t - during_f)) (report_Chart_v0 l during_f during_t width) (report_Chart_v0 l during_f during_t width)) ((1 : Int), during_f, during_t, (1 : Nat), [AV.int IntKind.u8 (43 : Int)])
noncomputable def report_Chart_v10 (l : List AV) (during_f : Int) (during_t : Int) (width : Int) : Option (Nat × List AV) := Iter (report_Chart_l0_step l (IntKind.i64.wrap (during_t - during_f)) (report_Chart_v0 l during_f during_t width) (report_Chart_v0 l during_f during_t width)) ((1 : Int), during_f, during_t, (1 : Nat), [AV.int IntKind.u8 (46 : Int)])
noncomputable def report_Chart_v11 (l : List AV) (during_f : Int) (during_t : Int) (width : Int) : Option (Nat × List AV) := Iter (report_Chart_l0_step l (IntKind.i64.wrap (during_t - during_f)) (report_Chart_v0 l during_f during_t width) (report_Chart_v0 l during_f during_t width)) ((1 : Int), during_f, during_t, (1 : Nat), [AV.int IntKind.u8 (35 : Int)])
noncomputable def report_Chart_v4 (l : List AV) (during_f : Int) (during_t : Int) (width : Int) : Nat × List AV := (report_Chart_v9 l during_f during_t width).getD ((0 : Nat), [])
noncomputable def report_Chart_v5 (l : List AV) (during_f : Int) (during_t : Int) (width : Int) : Nat × List AV := (report_Chart_v11 l during_f during_t width).getD ((0 : Nat), [])
noncomputable def report_Chart_v6 (l : List AV) (during_f : Int) (during_t : Int) (width : Int) : Nat × List AV := (report_Chart_v10 l during_f during_t width).getD ((0 : Nat), [])
noncomputable def report_Chart_v1 (l : List AV) (during_f : Int) (during_t : Int) (width : Int) : List AV := (report_Chart_v6 l during_f during_t width).snd
noncomputable def report_Chart_v2 (l : List AV) (during_f : Int) (during_t : Int) (width : Int) : List AV := (report_Chart_v5 l during_f during_t width).snd
noncomputable def report_Chart_v3 (l : List AV) (during_f : Int) (during_t : Int) (width : Int) : List AV := (report_Chart_v4 l during_f during_t width).snd
noncomputable def report_Chart_t {T : Type} (l : List AV) (during_f : Int) (during_t : Int) (width : Int) (δ : T) (κ : List UInt8 → T) : T := br (!period_Valid during_f during_t) (κ ([])) (br (decide (width < (1 : Int))) (κ ([])) (br (decide (width > (200 : Int))) (κ ([])) (br (decide ((0 : Int) < report_Chart_v0 l during_f during_t width)) (br (!report_Chart_v0 l during_f during_t width == (0 : Int)) (br (!report_Chart_v0 l during_f during_t width == (0 : Int)) (br ((report_Chart_v8 l during_f during_t width).isSome) (br ((↑((report_Chart_v8 l during_f during_t width).getD []).length : Int) == (0 : Int)) (br ((report_Chart_v10 l during_f during_t width).isSome) (br (decide ((report_Chart_v6 l during_f during_t width).fst = (report_Chart_v1 l during_f during_t width).length) && isBytes (report_Chart_v1 l during_f during_t width) && decide ((report_Chart_v1 l during_f during_t width).length ≠ (0 : Nat))) (br ((report_line [] [AV.str (strOf (report_Chart_v1 l during_f during_t width))]).isSome) (κ ((report_line [] [AV.str (strOf (report_Chart_v1 l during_f during_t width))]).getD [])) (δ)) (δ)) (δ)) (br ((report_Chart_v7 l during_f during_t width).isSome) (br ((report_Chart_v7 l during_f during_t width).getD false) (br ((report_Chart_v11 l during_f during_t width).isSome) (br (decide ((report_Chart_v5 l during_f during_t width).fst = (report_Chart_v2 l during_f during_t width).length) && isBytes (report_Chart_v2 l during_f during_t width) && decide ((report_Chart_v2 l during_f during_t width).length ≠ (0 : Nat))) (br ((report_line [] [AV.str (strOf (report_Chart_v2 l during_f during_t width))]).isSome) (κ ((report_line [] [AV.str (strOf (report_Chart_v2 l during_f during_t width))]).getD [])) (δ)) (δ)) (δ)) (br ((report_Chart_v9 l during_f during_t width).isSome) (br (decide ((report_Chart_v4 l during_f during_t width).fst = (report_Chart_v3 l during_f during_t width).length) && isBytes (report_Chart_v3 l during_f during_t width) && decide ((report_Chart_v3 l during_f during_t width).length ≠ (0 : Nat))) (br ((report_line [] [AV.str (strOf (report_Chart_v3 l during_f during_t width))]).isSome) (κ ((report_line [] [AV.str (strOf (report_Chart_v3 l during_f during_t width))]).getD [])) (δ)) (δ)) (δ))) (δ))) (δ)) (δ)) (δ)) (κ ((report_line [] [AV.str []]).getD [])))))
noncomputable def report_Chart (l : List AV) (during_f : Int) (during_t : Int) (width : Int) : Option (List UInt8) := report_Chart_t l during_f during_t width none some
theorem report_Chart_x (l : List AV) (during_f : Int) (during_t : Int) (width : Int) : Enc (fun (p : List UInt8) => ((AV.str p) : AV)) (report_Chart l during_f during_t width) (XF Tryz.prog report_Chart_E1 Tryz.f13 (Tryz.f13.body.getD .skip) [AV.list (2 : Nat) l, AV.agg [AV.int IntKind.i64 during_f, AV.int IntKind.i64 during_t], AV.int IntKind.i64 width]) := by
  have h : XF Tryz.prog report_Chart_E1 Tryz.f13 (Tryz.f13.body.getD .skip) [AV.list (2 : Nat) l, AV.agg [AV.int IntKind.i64 during_f, AV.int IntKind.i64 during_t], AV.int IntKind.i64 width] = report_Chart_t l during_f during_t width none (fun (p : List UInt8) => some ((AV.str p) : AV)) := by kernel_rfl
  rw [h]; unfold report_Chart report_Chart_t; repeat' (first | exact Enc.none | exact Enc.some rfl | refine Enc.br ?_ ?_)
noncomputable def report_Chart_o : List AV → Option (Bool × AV) := ocOf (sCons (sList (2 : Nat) pAny) (sCons (sAgg (sCons (sEq (pInt IntKind.i64)) (sCons (sEq (pInt IntKind.i64)) sNil))) (sCons (sEq (pInt IntKind.i64)) sNil))) fun (l, ((during_f, (during_t, _)), (width, _))) => ((report_Chart l during_f during_t width).isSome, (AV.str ((report_Chart l during_f during_t width).getD [])))
theorem report_Chart_c : OcOk Tryz.prog ITryz 13 (report_Chart_o) := ocOk_of fun vv rr hh => by
  obtain ⟨l, ⟨⟨during_f, ⟨during_t, _⟩⟩, ⟨width, _⟩⟩⟩ := vv
  obtain ⟨hh1, hh2⟩ := Prod.mk.inj hh
  refine good_pin (p := report_Chart_E1.pin) (good_XF mxTryz (inv0Ok Tryz.prog _) rfl report_Chart_E1_ok Tryz.func13 rfl (by kernel_rfl) report_Chart_E1_lk13 ((report_Chart_x _ _ _ _ _ (getD_of_isSome (d := []) hh1)).trans ?_))
  exact congrArg some hh2


noncomputable def EKC2_1 : Env := EKC1.with 13 report_Chart_o

theorem EKC2_1_ok : OrcOk Tryz.prog ITryz EKC2_1 := EKC1_ok.with report_Chart_c

/-- The environment of bitemporal/bitemporalref01.Overlaps: its loops so far. -/

noncomputable def ref01_Overlaps_E0 : Env := EKC2_1.fn 25 0 (lsOf []) (lpsOf [])

theorem ref01_Overlaps_E0_ok : OrcOk Tryz.prog (ITryz.at 0) ref01_Overlaps_E0 := EKC2_1_ok.fn

theorem ref01_Overlaps_E0_lk65 : LoOk Tryz.prog (ITryz.at ref01_Overlaps_E0.pin) ref01_Overlaps_E0 (Tryz.f65.body.getD .skip) := loOk_nil (by kernel_rfl)

/- 7 nodes -/
noncomputable def ref01_Overlaps (p0_f : Int) (p0_t : Int) (q_f : Int) (q_t : Int) : Bool := (br (ref01_Valid p0_f p0_t) (br (ref01_Valid q_f q_t) (br (decide (p0_f < q_t)) ((decide (q_f < p0_t))) ((false))) ((false))) ((false)))
noncomputable def ref01_Overlaps_pre (p0_f : Int) (p0_t : Int) (q_f : Int) (q_t : Int) : Bool := true
noncomputable def ref01_Overlaps_t {T : Type} (p0_f : Int) (p0_t : Int) (q_f : Int) (q_t : Int) (δ : T) (κ : Bool → T) : T := br (ref01_Valid p0_f p0_t) (br (ref01_Valid q_f q_t) (br (decide (p0_f < q_t)) (κ (decide (q_f < p0_t))) (κ (false))) (κ (false))) (κ (false))
theorem ref01_Overlaps_x (p0_f : Int) (p0_t : Int) (q_f : Int) (q_t : Int) : Pre (ref01_Overlaps_pre p0_f p0_t q_f q_t) (XF Tryz.prog ref01_Overlaps_E0 Tryz.f65 (Tryz.f65.body.getD .skip) [AV.agg [AV.int IntKind.i64 p0_f, AV.int IntKind.i64 p0_t], AV.agg [AV.int IntKind.i64 q_f, AV.int IntKind.i64 q_t]]) (AV.bool (ref01_Overlaps p0_f p0_t q_f q_t)) := by
  have h : XF Tryz.prog ref01_Overlaps_E0 Tryz.f65 (Tryz.f65.body.getD .skip) [AV.agg [AV.int IntKind.i64 p0_f, AV.int IntKind.i64 p0_t], AV.agg [AV.int IntKind.i64 q_f, AV.int IntKind.i64 q_t]] = ref01_Overlaps_t p0_f p0_t q_f q_t none (fun (p : Bool) => some ((AV.bool p) : AV)) := by kernel_rfl
  rw [h]; unfold ref01_Overlaps ref01_Overlaps_pre ref01_Overlaps_t; repeat' (first | exact Pre.none | exact Pre.tt rfl | exact Pre.some rfl | refine Pre.l ?_ | refine Pre.r ?_ | refine Pre.br (f := fun (p : Bool) => ((AV.bool p) : AV)) ?_ ?_ | refine Pre.brt (f := fun (p : Bool) => ((AV.bool p) : AV)) ?_ ?_)
noncomputable def ref01_Overlaps_o : List AV → Option (Bool × AV) := ocOf (sCons (sAgg (sCons (sEq (pInt IntKind.i64)) (sCons (sEq (pInt IntKind.i64)) sNil))) (sCons (sAgg (sCons (sEq (pInt IntKind.i64)) (sCons (sEq (pInt IntKind.i64)) sNil))) sNil)) fun ((p0_f, (p0_t, _)), ((q_f, (q_t, _)), _)) => (true, (AV.bool (ref01_Overlaps p0_f p0_t q_f q_t)))
theorem ref01_Overlaps_c : OcOk Tryz.prog ITryz 65 (ref01_Overlaps_o) := ocOk_of fun vv rr hh => by
  obtain ⟨⟨p0_f, ⟨p0_t, _⟩⟩, ⟨⟨q_f, ⟨q_t, _⟩⟩, _⟩⟩ := vv
  obtain ⟨hh1, hh2⟩ := Prod.mk.inj hh
  refine good_pin (p := ref01_Overlaps_E0.pin) (good_XF mxTryz (inv0Ok Tryz.prog _) rfl ref01_Overlaps_E0_ok Tryz.func65 rfl (by kernel_rfl) ref01_Overlaps_E0_lk65 ((Pre.get (ref01_Overlaps_x _ _ _ _) rfl).trans ?_))
  exact congrArg some hh2


noncomputable def EKC2_2 : Env := EKC2_1.with 65 ref01_Overlaps_o

theorem EKC2_2_ok : OrcOk Tryz.prog ITryz EKC2_2 := EKC2_1_ok.with ref01_Overlaps_c

/-- The environment of bitemporal/bitemporalref01.Subtract: its loops so far. -/

noncomputable def ref01_Subtract_E0 : Env := EKC2_2.fn 42 0 (lsOf []) (lpsOf [])

theorem ref01_Subtract_E0_ok : OrcOk Tryz.prog (ITryz.at 0) ref01_Subtract_E0 := EKC2_2_ok.fn

theorem ref01_Subtract_E0_lk82 : LoOk Tryz.prog (ITryz.at ref01_Subtract_E0.pin) ref01_Subtract_E0 (Tryz.f82.body.getD .skip) := loOk_nil (by kernel_rfl)

/- 11 nodes -/
noncomputable def ref01_Subtract_v0 (p0_f : Int) (p0_t : Int) (q_f : Int) (q_t : Int) : Bool := decide (q_t < p0_t)
noncomputable def ref01_Subtract_t {T : Type} (p0_f : Int) (p0_t : Int) (q_f : Int) (q_t : Int) (δ : T) (κ : Bool × (Unit) × (List AV) → T) : T := br (!ref01_Valid p0_f p0_t) (κ (true, (), [])) (br (!ref01_Overlaps p0_f p0_t q_f q_t) (κ (false, (), ([AV.agg [AV.int IntKind.i64 p0_f, AV.int IntKind.i64 p0_t]]))) (br (decide (p0_f < q_f)) (br (ref01_Subtract_v0 p0_f p0_t q_f q_t) (κ (false, (), ([AV.agg [AV.int IntKind.i64 p0_f, AV.int IntKind.i64 q_f], AV.agg [AV.int IntKind.i64 q_t, AV.int IntKind.i64 p0_t]]))) (κ (false, (), ([AV.agg [AV.int IntKind.i64 p0_f, AV.int IntKind.i64 q_f]])))) (br (ref01_Subtract_v0 p0_f p0_t q_f q_t) (κ (false, (), ([AV.agg [AV.int IntKind.i64 q_t, AV.int IntKind.i64 p0_t]]))) (κ (true, (), [])))))
noncomputable def ref01_Subtract (p0_f : Int) (p0_t : Int) (q_f : Int) (q_t : Int) : Option (List AV) := ref01_Subtract_t p0_f p0_t q_f q_t none (fun (p : Bool × (Unit) × (List AV)) => some (br p.1 ([]) p.2.2))
theorem ref01_Subtract_x (p0_f : Int) (p0_t : Int) (q_f : Int) (q_t : Int) : EncS (fun (p : List AV) => (AV.list (2 : Nat) p : AV)) (ref01_Subtract p0_f p0_t q_f q_t) (XF Tryz.prog ref01_Subtract_E0 Tryz.f82 (Tryz.f82.body.getD .skip) [AV.agg [AV.int IntKind.i64 p0_f, AV.int IntKind.i64 p0_t], AV.agg [AV.int IntKind.i64 q_f, AV.int IntKind.i64 q_t]]) := by
  have h : XF Tryz.prog ref01_Subtract_E0 Tryz.f82 (Tryz.f82.body.getD .skip) [AV.agg [AV.int IntKind.i64 p0_f, AV.int IntKind.i64 p0_t], AV.agg [AV.int IntKind.i64 q_f, AV.int IntKind.i64 q_t]] = ref01_Subtract_t p0_f p0_t q_f q_t none (fun (p : Bool × (Unit) × (List AV)) => some ((br p.1 (AV.nils) (AV.list (2 : Nat) p.2.2)) : AV)) := by kernel_rfl
  rw [h]; unfold ref01_Subtract ref01_Subtract_t; repeat' (first | exact EncS.none | exact EncS.some (Sub.refl _) | exact EncS.some (sub_nils _) | exact EncS.some (sub_pair_nils _ _) | refine EncS.br ?_ ?_)
noncomputable def ref01_Subtract_o : List AV → Option (Bool × AV) := ocOf (sCons (sAgg (sCons (sEq (pInt IntKind.i64)) (sCons (sEq (pInt IntKind.i64)) sNil))) (sCons (sAgg (sCons (sEq (pInt IntKind.i64)) (sCons (sEq (pInt IntKind.i64)) sNil))) sNil)) fun ((p0_f, (p0_t, _)), ((q_f, (q_t, _)), _)) => ((ref01_Subtract p0_f p0_t q_f q_t).isSome, (AV.list (2 : Nat) ((ref01_Subtract p0_f p0_t q_f q_t).getD [])))
theorem ref01_Subtract_c : OcOk Tryz.prog ITryz 82 (ref01_Subtract_o) := ocOk_of fun vv rr hh => by
  obtain ⟨⟨p0_f, ⟨p0_t, _⟩⟩, ⟨⟨q_f, ⟨q_t, _⟩⟩, _⟩⟩ := vv
  obtain ⟨hh1, hh2⟩ := Prod.mk.inj hh
  obtain ⟨y, hy, hs⟩ := ref01_Subtract_x _ _ _ _ _ (getD_of_isSome (d := []) hh1)
  have hg : Good Tryz.prog ITryz 82 _ _ := good_pin (p := ref01_Subtract_E0.pin) (good_XF mxTryz (inv0Ok Tryz.prog _) rfl ref01_Subtract_E0_ok Tryz.func82 rfl (by kernel_rfl) ref01_Subtract_E0_lk82 hy)
  rw [← hh2]
  exact Good.sub hg hs


noncomputable def EKC2_3 : Env := EKC2_2.with 82 ref01_Subtract_o

theorem EKC2_3_ok : OrcOk Tryz.prog ITryz EKC2_3 := EKC2_2_ok.with ref01_Subtract_c

/-- The environment of bitemporal/bitemporalref55.rest: its loops so far. -/

noncomputable def ref55_rest_E0 : Env := EKC2_3.fn 23 0 (lsOf []) (lpsOf [])

theorem ref55_rest_E0_ok : OrcOk Tryz.prog (ITryz.at 0) ref55_rest_E0 := EKC2_3_ok.fn

theorem ref55_rest_E0_lk66_0 : LoOk Tryz.prog (ITryz.at ref55_rest_E0.pin) ref55_rest_E0 (loopAt Tryz.f66 0) := loOk_nil (by kernel_rfl)

/- 11 nodes -/
noncomputable def ref55_rest_l0_v0 (l : List AV) (out_n : Nat) (i : Int) (p0_0 : Int) (p0_1 : Int) : Nat := out_n + ((ref01_Subtract ((l.getD i.toNat AV.top).cells.getD (0 : Nat) AV.top).toInt ((l.getD i.toNat AV.top).cells.getD (1 : Nat) AV.top).toInt p0_0 p0_1).getD []).length
noncomputable def ref55_rest_l0_t {T : Type} (l : List AV) (out_n : Nat) (i : Int) (p0_0 : Int) (p0_1 : Int) (out_xs : List AV) (δ : T) (κl : (Nat × Int × Int × Int × List AV) → T) (κr : (Nat × List AV) → T) : T := br (decide (i < (↑l.length : Int))) (br (decide ((0 : Int) ≤ i) && decide (i < (↑l.length : Int))) (br (decide (i.toNat < l.length) && ((l.getD i.toNat AV.top).cells.length == (2 : Nat) && hasShs [Sh.int IntKind.i64, Sh.int IntKind.i64] (l.getD i.toNat AV.top).cells (0 : Nat))) (br ((ref01_Subtract ((l.getD i.toNat AV.top).cells.getD (0 : Nat) AV.top).toInt ((l.getD i.toNat AV.top).cells.getD (1 : Nat) AV.top).toInt p0_0 p0_1).isSome) (br (out_n == out_xs.length && (decide (ref55_rest_l0_v0 l out_n i p0_0 p0_1 * (16 : Nat) ≤ (140737488355328 : Nat)) && decide (ref55_rest_l0_v0 l out_n i p0_0 p0_1 ≤ (4611686018427387904 : Nat)))) (κl (ref55_rest_l0_v0 l out_n i p0_0 p0_1, IntKind.i64.wrap (i + (1 : Int)), p0_0, p0_1, out_xs ++ (ref01_Subtract ((l.getD i.toNat AV.top).cells.getD (0 : Nat) AV.top).toInt ((l.getD i.toNat AV.top).cells.getD (1 : Nat) AV.top).toInt p0_0 p0_1).getD [])) (δ)) (δ)) (δ)) (δ)) (κr (out_n, out_xs))
noncomputable def ref55_rest_l0_step (l : List AV) : (Nat × Int × Int × Int × List AV) → Option ((Nat × Int × Int × Int × List AV) ⊕ (Nat × List AV)) := fun (out_n, i, p0_0, p0_1, out_xs) => ref55_rest_l0_t l out_n i p0_0 p0_1 out_xs none (fun s => some (.inl s)) (fun p => some (.inr p))
noncomputable def ref55_rest_l0_L (l : List AV) : (Nat × Int × Int × Int × List AV) → List AV × List Box := fun (out_n, i, p0_0, p0_1, out_xs) => ([AV.list (2 : Nat) l, AV.own 0 0 0 0, AV.osl 1 0 0 out_n, AV.int IntKind.i64 i], [⟨0, (2 : Nat), (33 : Nat), [AV.agg [AV.int IntKind.i64 p0_0, AV.int IntKind.i64 p0_1]], false, true⟩, ⟨0, (2 : Nat), (33 : Nat), out_xs, false, true⟩])
noncomputable def ref55_rest_l0_out (l : List AV) : (Nat × List AV) → LR := fun p => (.leaf (Exit.exit (0 : Nat)) [AV.osl 0 0 0 p.1] [⟨0, (2 : Nat), (33 : Nat), p.2, false, true⟩])
noncomputable abbrev ref55_rest_l0_X (vals : List AV) (H : List Box) := XR Tryz.prog ref55_rest_E0 [0, 3, 5, 6] [5] [(5, 2, 33)] (loopAt Tryz.f66 0) vals H
theorem ref55_rest_l0_r (l : List AV) (s : Nat × Int × Int × Int × List AV) : Enc (encR (ref55_rest_l0_L l) (ref55_rest_l0_out l)) (ref55_rest_l0_step l s) (ref55_rest_l0_X (ref55_rest_l0_L l s).1 (ref55_rest_l0_L l s).2) := by
  obtain ⟨out_n, i, p0_0, p0_1, out_xs⟩ := s
  have h : ref55_rest_l0_X (ref55_rest_l0_L l (out_n, i, p0_0, p0_1, out_xs)).1 (ref55_rest_l0_L l (out_n, i, p0_0, p0_1, out_xs)).2 = ref55_rest_l0_t l out_n i p0_0 p0_1 out_xs none (fun s => some (encR (ref55_rest_l0_L l) (ref55_rest_l0_out l) (.inl s))) (fun p => some (encR (ref55_rest_l0_L l) (ref55_rest_l0_out l) (.inr p))) := by kernel_rfl
  rw [h]; unfold ref55_rest_l0_step ref55_rest_l0_t; repeat' (first | exact Enc.none | exact Enc.some rfl | refine Enc.br ?_ ?_)
noncomputable def ref55_rest_l0_lp : Lp := lpOf [0, 3, 5, 6] [5] [(5, 2, 33)] (pCons (pList (2 : Nat) pAny) (pCons (pOwn (0 : Nat) (0 : Nat) (0 : Nat) (0 : Nat)) (pCons (pOsl (1 : Nat) (0 : Nat) (0 : Nat)) (pCons (pInt IntKind.i64) pNil)))) (pCons (pBox (0 : Nat) (2 : Nat) (33 : Nat) false true (pCons (pAgg (pCons (pInt IntKind.i64) (pCons (pInt IntKind.i64) pNil))) pNil)) (pCons (pBox (0 : Nat) (2 : Nat) (33 : Nat) false true pAny) pNil)) fun (l, (_, (out_n, (i, _)))) (((p0_0, (p0_1, _)), _), (out_xs, _)) => ((Iter (ref55_rest_l0_step l) (out_n, i, p0_0, p0_1, out_xs)).isSome, ref55_rest_l0_out l ((Iter (ref55_rest_l0_step l) (out_n, i, p0_0, p0_1, out_xs)).getD (0, [])))
theorem ref55_rest_l0_lok : LoopOk Tryz.prog (ITryz.at ref55_rest_E0.pin) ref55_rest_E0.nt (loopAt Tryz.f66 0) ref55_rest_l0_lp := lok_of fun vv bb rr hh => by
  obtain ⟨l, ⟨_, ⟨out_n, ⟨i, _⟩⟩⟩⟩ := vv
  obtain ⟨⟨⟨p0_0, ⟨p0_1, _⟩⟩, _⟩, ⟨out_xs, _⟩⟩ := bb
  obtain ⟨hh1, rfl⟩ := Prod.mk.inj hh
  exact loop_of_XR mxTryz (inv0Ok Tryz.prog _) rfl ref55_rest_E0_ok ref55_rest_E0_lk66_0 (ref55_rest_l0_L l) (ref55_rest_l0_out l) (fun p => by simp only [ref55_rest_l0_out, LR.eval]; first | (simp; done) | (repeat' split <;> simp)) (ref55_rest_l0_r l) (s := (out_n, i, p0_0, p0_1, out_xs)) (getD_of_isSome hh1)


/-- The environment of bitemporal/bitemporalref55.rest: its loops so far. -/

noncomputable def ref55_rest_E1 : Env := EKC2_3.fn 23 0 (lsOf []) (lpsOf [(3, ref55_rest_l0_lp)])

theorem ref55_rest_E1_ok : OrcOk Tryz.prog (ITryz.at 0) ref55_rest_E1 := EKC2_3_ok.fn

theorem ref55_rest_E1_lk66 : LoOk Tryz.prog (ITryz.at ref55_rest_E1.pin) ref55_rest_E1 (Tryz.f66.body.getD .skip) := loOk_all (ls := [loopAt Tryz.f66 0]) (by kernel_rfl) (fun l hl lp hs => by
  simp only [List.mem_cons, List.not_mem_nil, or_false] at hl
  rcases hl with rfl
  · rw [show ref55_rest_E1.lp (codeId (loopAt Tryz.f66 0)) = some ref55_rest_l0_lp by kernel_rfl] at hs
    simp only [Option.some.injEq] at hs; subst hs; exact ref55_rest_l0_lok)

/- 5 nodes -/
noncomputable def ref55_rest_v3 (l : List AV) (p0_f : Int) (p0_t : Int) : Option (Nat × List AV) := Iter (ref55_rest_l0_step l) ((0 : Nat), (0 : Int), p0_f, p0_t, [])
noncomputable def ref55_rest_v2 (l : List AV) (p0_f : Int) (p0_t : Int) : Nat × List AV := (ref55_rest_v3 l p0_f p0_t).getD ((0 : Nat), [])
noncomputable def ref55_rest_v0 (l : List AV) (p0_f : Int) (p0_t : Int) : List AV := (ref55_rest_v2 l p0_f p0_t).snd
noncomputable def ref55_rest_v1 (l : List AV) (p0_f : Int) (p0_t : Int) : Nat := (ref55_rest_v2 l p0_f p0_t).fst
noncomputable def ref55_rest_t {T : Type} (l : List AV) (p0_f : Int) (p0_t : Int) (δ : T) (κ : List AV → T) : T := br ((ref55_rest_v3 l p0_f p0_t).isSome) (br (decide ((0 : Nat) + ref55_rest_v1 l p0_f p0_t ≤ (ref55_rest_v0 l p0_f p0_t).length) && true) (κ (List.take (ref55_rest_v1 l p0_f p0_t) (List.drop (0 : Nat) (ref55_rest_v0 l p0_f p0_t)))) (δ)) (δ)
noncomputable def ref55_rest (l : List AV) (p0_f : Int) (p0_t : Int) : Option (List AV) := ref55_rest_t l p0_f p0_t none some
theorem ref55_rest_x (l : List AV) (p0_f : Int) (p0_t : Int) : Enc (fun (p : List AV) => ((AV.list (2 : Nat) p) : AV)) (ref55_rest l p0_f p0_t) (XF Tryz.prog ref55_rest_E1 Tryz.f66 (Tryz.f66.body.getD .skip) [AV.list (2 : Nat) l, AV.agg [AV.int IntKind.i64 p0_f, AV.int IntKind.i64 p0_t]]) := by
  have h : XF Tryz.prog ref55_rest_E1 Tryz.f66 (Tryz.f66.body.getD .skip) [AV.list (2 : Nat) l, AV.agg [AV.int IntKind.i64 p0_f, AV.int IntKind.i64 p0_t]] = ref55_rest_t l p0_f p0_t none (fun (p : List AV) => some ((AV.list (2 : Nat) p) : AV)) := by kernel_rfl
  rw [h]; unfold ref55_rest ref55_rest_t; repeat' (first | exact Enc.none | exact Enc.some rfl | refine Enc.br ?_ ?_)
noncomputable def ref55_rest_o : List AV → Option (Bool × AV) := ocOf (sCons (sList (2 : Nat) pAny) (sCons (sAgg (sCons (sEq (pInt IntKind.i64)) (sCons (sEq (pInt IntKind.i64)) sNil))) sNil)) fun (l, ((p0_f, (p0_t, _)), _)) => ((ref55_rest l p0_f p0_t).isSome, (AV.list (2 : Nat) ((ref55_rest l p0_f p0_t).getD [])))
theorem ref55_rest_c : OcOk Tryz.prog ITryz 66 (ref55_rest_o) := ocOk_of fun vv rr hh => by
  obtain ⟨l, ⟨⟨p0_f, ⟨p0_t, _⟩⟩, _⟩⟩ := vv
  obtain ⟨hh1, hh2⟩ := Prod.mk.inj hh
  refine good_pin (p := ref55_rest_E1.pin) (good_XF mxTryz (inv0Ok Tryz.prog _) rfl ref55_rest_E1_ok Tryz.func66 rfl (by kernel_rfl) ref55_rest_E1_lk66 ((ref55_rest_x _ _ _ _ (getD_of_isSome (d := []) hh1)).trans ?_))
  exact congrArg some hh2


noncomputable def EKC2_4 : Env := EKC2_3.with 66 ref55_rest_o

theorem EKC2_4_ok : OrcOk Tryz.prog ITryz EKC2_4 := EKC2_3_ok.with ref55_rest_c

/-- The environment of bitemporal/bitemporalref55.mark: its loops so far. -/

noncomputable def ref55_mark_E0 : Env := EKC2_4.fn 35 0 (lsOf []) (lpsOf [])

theorem ref55_mark_E0_ok : OrcOk Tryz.prog (ITryz.at 0) ref55_mark_E0 := EKC2_4_ok.fn

theorem ref55_mark_E0_lk43_0 : LoOk Tryz.prog (ITryz.at ref55_mark_E0.pin) ref55_mark_E0 (loopAt Tryz.f43 0) := loOk_nil (by kernel_rfl)

/- 21 nodes -/
noncomputable def ref55_mark_l0_v0 (l : List AV) (i : Int) : Bool := decide (i.toNat < l.length) && ((l.getD i.toNat AV.top).cells.length == (2 : Nat) && hasShs [Sh.int IntKind.i64, Sh.int IntKind.i64] (l.getD i.toNat AV.top).cells (0 : Nat))
noncomputable def ref55_mark_l0_v1 (l : List AV) (i : Int) : Bool := decide ((0 : Int) ≤ i) && decide (i < (↑l.length : Int))
noncomputable def ref55_mark_l0_t {T : Type} (l : List AV) (left : List AV) (some0 : Bool) (i : Int) (part_0 : Int) (part_1 : Int) (δ : T) (κl : (List AV × Bool × Int × Int × Int) → T) (κr : (List AV × Bool) → T) : T := br (decide (i < (↑l.length : Int))) (br (some0) (br (ref55_mark_l0_v1 l i) (br (ref55_mark_l0_v0 l i) (br ((ref55_rest left ((l.getD i.toNat AV.top).cells.getD (0 : Nat) AV.top).toInt ((l.getD i.toNat AV.top).cells.getD (1 : Nat) AV.top).toInt).isSome) (κl ((ref55_rest left ((l.getD i.toNat AV.top).cells.getD (0 : Nat) AV.top).toInt ((l.getD i.toNat AV.top).cells.getD (1 : Nat) AV.top).toInt).getD [], true, IntKind.i64.wrap (i + (1 : Int)), part_0, part_1)) (δ)) (δ)) (δ)) (br (ref55_mark_l0_v1 l i) (br (ref55_mark_l0_v0 l i) (br (ref55_mark_l0_v1 l i) (br (ref55_mark_l0_v0 l i) (br ((ref55_rest left ((l.getD i.toNat AV.top).cells.getD (0 : Nat) AV.top).toInt ((l.getD i.toNat AV.top).cells.getD (1 : Nat) AV.top).toInt).isSome) (κl ((ref55_rest left ((l.getD i.toNat AV.top).cells.getD (0 : Nat) AV.top).toInt ((l.getD i.toNat AV.top).cells.getD (1 : Nat) AV.top).toInt).getD [], ref01_Overlaps ((l.getD i.toNat AV.top).cells.getD (0 : Nat) AV.top).toInt ((l.getD i.toNat AV.top).cells.getD (1 : Nat) AV.top).toInt part_0 part_1, IntKind.i64.wrap (i + (1 : Int)), part_0, part_1)) (δ)) (δ)) (δ)) (δ)) (δ))) (κr (left, some0))
noncomputable def ref55_mark_l0_step (l : List AV) : (List AV × Bool × Int × Int × Int) → Option ((List AV × Bool × Int × Int × Int) ⊕ (List AV × Bool)) := fun (left, some0, i, part_0, part_1) => ref55_mark_l0_t l left some0 i part_0 part_1 none (fun s => some (.inl s)) (fun p => some (.inr p))
noncomputable def ref55_mark_l0_L (l : List AV) : (List AV × Bool × Int × Int × Int) → List AV × List Box := fun (left, some0, i, part_0, part_1) => ([AV.list (2 : Nat) l, AV.own 0 0 0 0, AV.list (2 : Nat) left, AV.bool some0, AV.int IntKind.i64 i], [⟨0, (2 : Nat), (33 : Nat), [AV.agg [AV.int IntKind.i64 part_0, AV.int IntKind.i64 part_1]], false, true⟩])
noncomputable def ref55_mark_l0_out (l : List AV) : (List AV × Bool) → LR := fun p => (.leaf (Exit.exit (0 : Nat)) [AV.list (2 : Nat) p.1, AV.bool p.2] [])
noncomputable abbrev ref55_mark_l0_X (vals : List AV) (H : List Box) := XR Tryz.prog ref55_mark_E0 [0, 3, 5, 6, 7] [5, 6] [] (loopAt Tryz.f43 0) vals H
theorem ref55_mark_l0_r (l : List AV) (s : List AV × Bool × Int × Int × Int) : Enc (encR (ref55_mark_l0_L l) (ref55_mark_l0_out l)) (ref55_mark_l0_step l s) (ref55_mark_l0_X (ref55_mark_l0_L l s).1 (ref55_mark_l0_L l s).2) := by
  obtain ⟨left, some0, i, part_0, part_1⟩ := s
  have h : ref55_mark_l0_X (ref55_mark_l0_L l (left, some0, i, part_0, part_1)).1 (ref55_mark_l0_L l (left, some0, i, part_0, part_1)).2 = ref55_mark_l0_t l left some0 i part_0 part_1 none (fun s => some (encR (ref55_mark_l0_L l) (ref55_mark_l0_out l) (.inl s))) (fun p => some (encR (ref55_mark_l0_L l) (ref55_mark_l0_out l) (.inr p))) := by kernel_rfl
  rw [h]; unfold ref55_mark_l0_step ref55_mark_l0_t; repeat' (first | exact Enc.none | exact Enc.some rfl | refine Enc.br ?_ ?_)
noncomputable def ref55_mark_l0_lp : Lp := lpOf [0, 3, 5, 6, 7] [5, 6] [] (pCons (pList (2 : Nat) pAny) (pCons (pOwn (0 : Nat) (0 : Nat) (0 : Nat) (0 : Nat)) (pCons (pList (2 : Nat) pAny) (pCons pBool (pCons (pInt IntKind.i64) pNil))))) (pCons (pBox (0 : Nat) (2 : Nat) (33 : Nat) false true (pCons (pAgg (pCons (pInt IntKind.i64) (pCons (pInt IntKind.i64) pNil))) pNil)) pNil) fun (l, (_, (left, (some0, (i, _))))) (((part_0, (part_1, _)), _), _) => ((Iter (ref55_mark_l0_step l) (left, some0, i, part_0, part_1)).isSome, ref55_mark_l0_out l ((Iter (ref55_mark_l0_step l) (left, some0, i, part_0, part_1)).getD ([], false)))
theorem ref55_mark_l0_lok : LoopOk Tryz.prog (ITryz.at ref55_mark_E0.pin) ref55_mark_E0.nt (loopAt Tryz.f43 0) ref55_mark_l0_lp := lok_of fun vv bb rr hh => by
  obtain ⟨l, ⟨_, ⟨left, ⟨some0, ⟨i, _⟩⟩⟩⟩⟩ := vv
  obtain ⟨⟨⟨part_0, ⟨part_1, _⟩⟩, _⟩, _⟩ := bb
  obtain ⟨hh1, rfl⟩ := Prod.mk.inj hh
  exact loop_of_XR mxTryz (inv0Ok Tryz.prog _) rfl ref55_mark_E0_ok ref55_mark_E0_lk43_0 (ref55_mark_l0_L l) (ref55_mark_l0_out l) (fun p => by simp only [ref55_mark_l0_out, LR.eval]; first | (simp; done) | (repeat' split <;> simp)) (ref55_mark_l0_r l) (s := (left, some0, i, part_0, part_1)) (getD_of_isSome hh1)


/-- The environment of bitemporal/bitemporalref55.mark: its loops so far. -/

noncomputable def ref55_mark_E1 : Env := EKC2_4.fn 35 0 (lsOf []) (lpsOf [(4, ref55_mark_l0_lp)])

theorem ref55_mark_E1_ok : OrcOk Tryz.prog (ITryz.at 0) ref55_mark_E1 := EKC2_4_ok.fn

theorem ref55_mark_E1_lk43 : LoOk Tryz.prog (ITryz.at ref55_mark_E1.pin) ref55_mark_E1 (Tryz.f43.body.getD .skip) := loOk_all (ls := [loopAt Tryz.f43 0]) (by kernel_rfl) (fun l hl lp hs => by
  simp only [List.mem_cons, List.not_mem_nil, or_false] at hl
  rcases hl with rfl
  · rw [show ref55_mark_E1.lp (codeId (loopAt Tryz.f43 0)) = some ref55_mark_l0_lp by kernel_rfl] at hs
    simp only [Option.some.injEq] at hs; subst hs; exact ref55_mark_l0_lok)

/- 19 nodes -/
noncomputable def ref55_mark_v2 (l : List AV) : Bool := decide ((0 : Nat) < l.length) && ((l.getD (0 : Nat) AV.top).cells.length == (2 : Nat) && hasShs [Sh.int IntKind.i64, Sh.int IntKind.i64] (l.getD (0 : Nat) AV.top).cells (0 : Nat))
noncomputable def ref55_mark_v3 (l : List AV) (part_f : Int) (part_t : Int) : Option (List AV) := ref55_rest [AV.agg [AV.int IntKind.i64 part_f, AV.int IntKind.i64 part_t]] ((l.getD (0 : Nat) AV.top).cells.getD (0 : Nat) AV.top).toInt ((l.getD (0 : Nat) AV.top).cells.getD (1 : Nat) AV.top).toInt
noncomputable def ref55_mark_v4 (l : List AV) : Bool := decide ((0 : Int) < (↑l.length : Int))
noncomputable def ref55_mark_v1 (l : List AV) (part_f : Int) (part_t : Int) : Option (List AV × Bool) := Iter (ref55_mark_l0_step l) ((ref55_mark_v3 l part_f part_t).getD [], ref01_Overlaps ((l.getD (0 : Nat) AV.top).cells.getD (0 : Nat) AV.top).toInt ((l.getD (0 : Nat) AV.top).cells.getD (1 : Nat) AV.top).toInt part_f part_t, (1 : Int), part_f, part_t)
noncomputable def ref55_mark_v0 (l : List AV) (part_f : Int) (part_t : Int) : List AV × Bool := (ref55_mark_v1 l part_f part_t).getD ([], false)
noncomputable def ref55_mark_t {T : Type} (l : List AV) (part_f : Int) (part_t : Int) (δ : T) (κ : List UInt8 → T) : T := br (ref55_mark_v4 l) (br (ref55_mark_v4 l) (br (ref55_mark_v2 l) (br (ref55_mark_v4 l) (br (ref55_mark_v2 l) (br ((ref55_mark_v3 l part_f part_t).isSome) (br ((ref55_mark_v1 l part_f part_t).isSome) (br ((↑(ref55_mark_v0 l part_f part_t).fst.length : Int) == (0 : Int)) (κ ([(35 : UInt8)])) (br ((ref55_mark_v0 l part_f part_t).snd) (κ ([(43 : UInt8)])) (κ ([(46 : UInt8)])))) (δ)) (δ)) (δ)) (δ)) (δ)) (δ)) (κ ([(46 : UInt8)]))
noncomputable def ref55_mark (l : List AV) (part_f : Int) (part_t : Int) : Option (List UInt8) := ref55_mark_t l part_f part_t none some
theorem ref55_mark_x (l : List AV) (part_f : Int) (part_t : Int) : Enc (fun (p : List UInt8) => ((AV.str p) : AV)) (ref55_mark l part_f part_t) (XF Tryz.prog ref55_mark_E1 Tryz.f43 (Tryz.f43.body.getD .skip) [AV.list (2 : Nat) l, AV.agg [AV.int IntKind.i64 part_f, AV.int IntKind.i64 part_t]]) := by
  have h : XF Tryz.prog ref55_mark_E1 Tryz.f43 (Tryz.f43.body.getD .skip) [AV.list (2 : Nat) l, AV.agg [AV.int IntKind.i64 part_f, AV.int IntKind.i64 part_t]] = ref55_mark_t l part_f part_t none (fun (p : List UInt8) => some ((AV.str p) : AV)) := by kernel_rfl
  rw [h]; unfold ref55_mark ref55_mark_t; repeat' (first | exact Enc.none | exact Enc.some rfl | refine Enc.br ?_ ?_)
noncomputable def ref55_mark_o : List AV → Option (Bool × AV) := ocOf (sCons (sList (2 : Nat) pAny) (sCons (sAgg (sCons (sEq (pInt IntKind.i64)) (sCons (sEq (pInt IntKind.i64)) sNil))) sNil)) fun (l, ((part_f, (part_t, _)), _)) => ((ref55_mark l part_f part_t).isSome, (AV.str ((ref55_mark l part_f part_t).getD [])))
theorem ref55_mark_c : OcOk Tryz.prog ITryz 43 (ref55_mark_o) := ocOk_of fun vv rr hh => by
  obtain ⟨l, ⟨⟨part_f, ⟨part_t, _⟩⟩, _⟩⟩ := vv
  obtain ⟨hh1, hh2⟩ := Prod.mk.inj hh
  refine good_pin (p := ref55_mark_E1.pin) (good_XF mxTryz (inv0Ok Tryz.prog _) rfl ref55_mark_E1_ok Tryz.func43 rfl (by kernel_rfl) ref55_mark_E1_lk43 ((ref55_mark_x _ _ _ _ (getD_of_isSome (d := []) hh1)).trans ?_))
  exact congrArg some hh2


noncomputable def EKC2_5 : Env := EKC2_4.with 43 ref55_mark_o

theorem EKC2_5_ok : OrcOk Tryz.prog ITryz EKC2_5 := EKC2_4_ok.with ref55_mark_c

/-- The environment of bitemporal/bitemporalref55.Chart: its loops so far. -/

noncomputable def ref55_Chart_E0 : Env := EKC2_5.fn 59 0 (lsOf []) (lpsOf [])

theorem ref55_Chart_E0_ok : OrcOk Tryz.prog (ITryz.at 0) ref55_Chart_E0 := EKC2_5_ok.fn

theorem ref55_Chart_E0_lk14_0 : LoOk Tryz.prog (ITryz.at ref55_Chart_E0.pin) ref55_Chart_E0 (loopAt Tryz.f14 0) := loOk_nil (by kernel_rfl)

/- 11 nodes -/
noncomputable def ref55_Chart_l0_v1 (l : List AV) (n : Int) (w : Int) (i : Int) (during_0 : Int) : Option (List UInt8) := ref55_mark l (IntKind.i64.wrap (during_0 + IntKind.i64.wrap ((IntKind.i64.wrap (i * n)).tdiv w))) (IntKind.i64.wrap (during_0 + IntKind.i64.wrap ((IntKind.i64.wrap (IntKind.i64.wrap (i + (1 : Int)) * n)).tdiv w)))
noncomputable def ref55_Chart_l0_v0 (l : List AV) (n : Int) (w : Int) (i : Int) (during_0 : Int) : List UInt8 := (ref55_Chart_l0_v1 l n w i during_0).getD []
noncomputable def ref55_Chart_l0_t {T : Type} (l : List AV) (n : Int) (w : Int) (out : List UInt8) (i : Int) (during_0 : Int) (during_1 : Int) (δ : T) (κl : (List UInt8 × Int × Int × Int) → T) (κr : (List UInt8) → T) : T := br (decide (i < w)) (br (!w == (0 : Int)) (br (!w == (0 : Int)) (br ((ref55_Chart_l0_v1 l n w i during_0).isSome) (br (decide (out.length + (ref55_Chart_l0_v0 l n w i during_0).length ≤ (4611686018427387904 : Nat))) (κl (out ++ ref55_Chart_l0_v0 l n w i during_0, IntKind.i64.wrap (i + (1 : Int)), during_0, during_1)) (δ)) (δ)) (δ)) (δ)) (κr (out))
noncomputable def ref55_Chart_l0_step (l : List AV) (n : Int) (w : Int) : (List UInt8 × Int × Int × Int) → Option ((List UInt8 × Int × Int × Int) ⊕ (List UInt8)) := fun (out, i, during_0, during_1) => ref55_Chart_l0_t l n w out i during_0 during_1 none (fun s => some (.inl s)) (fun p => some (.inr p))
noncomputable def ref55_Chart_l0_L (l : List AV) (n : Int) (w : Int) : (List UInt8 × Int × Int × Int) → List AV × List Box := fun (out, i, during_0, during_1) => ([AV.list (2 : Nat) l, AV.own 0 0 0 0, AV.int IntKind.i64 n, AV.int IntKind.i64 w, AV.str out, AV.int IntKind.i64 i], [⟨0, (2 : Nat), (33 : Nat), [AV.agg [AV.int IntKind.i64 during_0, AV.int IntKind.i64 during_1]], false, true⟩])
noncomputable def ref55_Chart_l0_out (l : List AV) (n : Int) (w : Int) : (List UInt8) → LR := fun p => (.leaf (Exit.exit (0 : Nat)) [AV.str p] [])
noncomputable abbrev ref55_Chart_l0_X (vals : List AV) (H : List Box) := XR Tryz.prog ref55_Chart_E0 [0, 4, 7, 8, 9, 10] [9] [] (loopAt Tryz.f14 0) vals H
theorem ref55_Chart_l0_r (l : List AV) (n : Int) (w : Int) (s : List UInt8 × Int × Int × Int) : Enc (encR (ref55_Chart_l0_L l n w) (ref55_Chart_l0_out l n w)) (ref55_Chart_l0_step l n w s) (ref55_Chart_l0_X (ref55_Chart_l0_L l n w s).1 (ref55_Chart_l0_L l n w s).2) := by
  obtain ⟨out, i, during_0, during_1⟩ := s
  have h : ref55_Chart_l0_X (ref55_Chart_l0_L l n w (out, i, during_0, during_1)).1 (ref55_Chart_l0_L l n w (out, i, during_0, during_1)).2 = ref55_Chart_l0_t l n w out i during_0 during_1 none (fun s => some (encR (ref55_Chart_l0_L l n w) (ref55_Chart_l0_out l n w) (.inl s))) (fun p => some (encR (ref55_Chart_l0_L l n w) (ref55_Chart_l0_out l n w) (.inr p))) := by kernel_rfl
  rw [h]; unfold ref55_Chart_l0_step ref55_Chart_l0_t; repeat' (first | exact Enc.none | exact Enc.some rfl | refine Enc.br ?_ ?_)
noncomputable def ref55_Chart_l0_lp : Lp := lpOf [0, 4, 7, 8, 9, 10] [9] [] (pCons (pList (2 : Nat) pAny) (pCons (pOwn (0 : Nat) (0 : Nat) (0 : Nat) (0 : Nat)) (pCons (pInt IntKind.i64) (pCons (pInt IntKind.i64) (pCons pStr (pCons (pInt IntKind.i64) pNil)))))) (pCons (pBox (0 : Nat) (2 : Nat) (33 : Nat) false true (pCons (pAgg (pCons (pInt IntKind.i64) (pCons (pInt IntKind.i64) pNil))) pNil)) pNil) fun (l, (_, (n, (w, (out, (i, _)))))) (((during_0, (during_1, _)), _), _) => ((Iter (ref55_Chart_l0_step l n w) (out, i, during_0, during_1)).isSome, ref55_Chart_l0_out l n w ((Iter (ref55_Chart_l0_step l n w) (out, i, during_0, during_1)).getD []))
theorem ref55_Chart_l0_lok : LoopOk Tryz.prog (ITryz.at ref55_Chart_E0.pin) ref55_Chart_E0.nt (loopAt Tryz.f14 0) ref55_Chart_l0_lp := lok_of fun vv bb rr hh => by
  obtain ⟨l, ⟨_, ⟨n, ⟨w, ⟨out, ⟨i, _⟩⟩⟩⟩⟩⟩ := vv
  obtain ⟨⟨⟨during_0, ⟨during_1, _⟩⟩, _⟩, _⟩ := bb
  obtain ⟨hh1, rfl⟩ := Prod.mk.inj hh
  exact loop_of_XR mxTryz (inv0Ok Tryz.prog _) rfl ref55_Chart_E0_ok ref55_Chart_E0_lk14_0 (ref55_Chart_l0_L l n w) (ref55_Chart_l0_out l n w) (fun p => by simp only [ref55_Chart_l0_out, LR.eval]; first | (simp; done) | (repeat' split <;> simp)) (ref55_Chart_l0_r l n w) (s := (out, i, during_0, during_1)) (getD_of_isSome hh1)


/-- The environment of bitemporal/bitemporalref55.Chart: its loops so far. -/

noncomputable def ref55_Chart_E1 : Env := EKC2_5.fn 59 0 (lsOf []) (lpsOf [(7, ref55_Chart_l0_lp)])

theorem ref55_Chart_E1_ok : OrcOk Tryz.prog (ITryz.at 0) ref55_Chart_E1 := EKC2_5_ok.fn

theorem ref55_Chart_E1_lk14 : LoOk Tryz.prog (ITryz.at ref55_Chart_E1.pin) ref55_Chart_E1 (Tryz.f14.body.getD .skip) := loOk_all (ls := [loopAt Tryz.f14 0]) (by kernel_rfl) (fun l hl lp hs => by
  simp only [List.mem_cons, List.not_mem_nil, or_false] at hl
  rcases hl with rfl
  · rw [show ref55_Chart_E1.lp (codeId (loopAt Tryz.f14 0)) = some ref55_Chart_l0_lp by kernel_rfl] at hs
    simp only [Option.some.injEq] at hs; subst hs; exact ref55_Chart_l0_lok)

/- 11 nodes -/
noncomputable def ref55_Chart_v1 (l : List AV) (during_f : Int) (during_t : Int) (width : Int) : Option (List UInt8) := Iter (ref55_Chart_l0_step l (IntKind.i64.wrap (during_t - during_f)) (if IntKind.i64.wrap (during_t - during_f) < width then IntKind.i64.wrap (during_t - during_f) else width)) ([], (0 : Int), during_f, during_t)
noncomputable def ref55_Chart_v0 (l : List AV) (during_f : Int) (during_t : Int) (width : Int) : List UInt8 := (ref55_Chart_v1 l during_f during_t width).getD []
noncomputable def ref55_Chart_t {T : Type} (l : List AV) (during_f : Int) (during_t : Int) (width : Int) (δ : T) (κ : List UInt8 → T) : T := br (!ref01_Valid during_f during_t) (κ ([])) (br (decide (width < (1 : Int))) (κ ([])) (br (decide (width > (200 : Int))) (κ ([])) (br ((ref55_Chart_v1 l during_f during_t width).isSome) (br (decide ((ref55_Chart_v0 l during_f during_t width).length + (1 : Nat) ≤ (4611686018427387904 : Nat))) (κ (ref55_Chart_v0 l during_f during_t width ++ [(10 : UInt8)])) (δ)) (δ))))
noncomputable def ref55_Chart (l : List AV) (during_f : Int) (during_t : Int) (width : Int) : Option (List UInt8) := ref55_Chart_t l during_f during_t width none some
theorem ref55_Chart_x (l : List AV) (during_f : Int) (during_t : Int) (width : Int) : Enc (fun (p : List UInt8) => ((AV.str p) : AV)) (ref55_Chart l during_f during_t width) (XF Tryz.prog ref55_Chart_E1 Tryz.f14 (Tryz.f14.body.getD .skip) [AV.list (2 : Nat) l, AV.agg [AV.int IntKind.i64 during_f, AV.int IntKind.i64 during_t], AV.int IntKind.i64 width]) := by
  have h : XF Tryz.prog ref55_Chart_E1 Tryz.f14 (Tryz.f14.body.getD .skip) [AV.list (2 : Nat) l, AV.agg [AV.int IntKind.i64 during_f, AV.int IntKind.i64 during_t], AV.int IntKind.i64 width] = ref55_Chart_t l during_f during_t width none (fun (p : List UInt8) => some ((AV.str p) : AV)) := by kernel_rfl
  rw [h]; unfold ref55_Chart ref55_Chart_t; repeat' (first | exact Enc.none | exact Enc.some rfl | refine Enc.br ?_ ?_)
noncomputable def ref55_Chart_o : List AV → Option (Bool × AV) := ocOf (sCons (sList (2 : Nat) pAny) (sCons (sAgg (sCons (sEq (pInt IntKind.i64)) (sCons (sEq (pInt IntKind.i64)) sNil))) (sCons (sEq (pInt IntKind.i64)) sNil))) fun (l, ((during_f, (during_t, _)), (width, _))) => ((ref55_Chart l during_f during_t width).isSome, (AV.str ((ref55_Chart l during_f during_t width).getD [])))
theorem ref55_Chart_c : OcOk Tryz.prog ITryz 14 (ref55_Chart_o) := ocOk_of fun vv rr hh => by
  obtain ⟨l, ⟨⟨during_f, ⟨during_t, _⟩⟩, ⟨width, _⟩⟩⟩ := vv
  obtain ⟨hh1, hh2⟩ := Prod.mk.inj hh
  refine good_pin (p := ref55_Chart_E1.pin) (good_XF mxTryz (inv0Ok Tryz.prog _) rfl ref55_Chart_E1_ok Tryz.func14 rfl (by kernel_rfl) ref55_Chart_E1_lk14 ((ref55_Chart_x _ _ _ _ _ (getD_of_isSome (d := []) hh1)).trans ?_))
  exact congrArg some hh2


noncomputable def EKC2_6 : Env := EKC2_5.with 14 ref55_Chart_o

theorem EKC2_6_ok : OrcOk Tryz.prog ITryz EKC2_6 := EKC2_5_ok.with ref55_Chart_c

noncomputable abbrev EKC2 : Env := EKC2_6

theorem EKC2_ok : OrcOk Tryz.prog ITryz EKC2 := EKC2_6_ok

end Go.Sim.M
