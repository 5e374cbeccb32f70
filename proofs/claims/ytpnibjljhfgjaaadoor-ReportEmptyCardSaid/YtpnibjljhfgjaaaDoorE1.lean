/- Functions of the program as the executor found them: printed by program, checked by the kernel. -/
import Derived.Test.YtpnibjljhfgjaaaDoorK2
import Derived.Test.YtpnibjljhfgjaaaDoorPat
set_option linter.unusedVariables false
set_option linter.unusedSimpArgs false
set_option maxRecDepth 100000
namespace Go.Sim.M
open Go.RowKit Go.Proofs

/-- The environment of (*strings.Builder).WriteByte: its loops so far. -/

noncomputable def strings_Builder_WriteByte_F_E0 : Env := EK2.fn 17 1 (lsOf []) (lpsOf [])

theorem strings_Builder_WriteByte_F_E0_ok : OrcOk Tryd.prog (ITryd.at 1) strings_Builder_WriteByte_F_E0 := EK2_ok.fn

theorem strings_Builder_WriteByte_F_E0_lk15 : LoOk Tryd.prog (ITryd.at strings_Builder_WriteByte_F_E0.pin) strings_Builder_WriteByte_F_E0 (Tryd.f15.body.getD .skip) := loOk_nil (by kernel_rfl)

/- 1 nodes -/
noncomputable def strings_Builder_WriteByte_F (c : Int) : Int := ((c))
noncomputable def strings_Builder_WriteByte_F_pre (c : Int) : Bool := true
noncomputable def strings_Builder_WriteByte_F_t {T : Type} (c : Int) (δ : T) (κ : Int → T) : T := κ (c)
theorem strings_Builder_WriteByte_F_x (c : Int) : Pre (strings_Builder_WriteByte_F_pre c) (XFM Tryd.prog strings_Builder_WriteByte_F_E0 Tryd.f15 (Tryd.f15.body.getD .skip) [AV.own (0 : Nat) (0 : Nat) (0 : Nat) (0 : Nat), AV.int IntKind.u8 c] [{ ver := (0 : Nat), sz := (2 : Nat), ty := (50 : TypeId), xs := [AV.agg [AV.nilptr, AV.nils]], frz := false, pm := true }]) ((AV.top, ([⟨0, (2 : Nat), (50 : Nat), [AV.agg [AV.own 0 0 0 0, AV.osl 1 0 0 1]], false, false⟩, ⟨0, (1 : Nat), (5 : Nat), [AV.int IntKind.u8 (strings_Builder_WriteByte_F c)], false, true⟩] : List Box))) := by
  have h : XFM Tryd.prog strings_Builder_WriteByte_F_E0 Tryd.f15 (Tryd.f15.body.getD .skip) [AV.own (0 : Nat) (0 : Nat) (0 : Nat) (0 : Nat), AV.int IntKind.u8 c] [{ ver := (0 : Nat), sz := (2 : Nat), ty := (50 : TypeId), xs := [AV.agg [AV.nilptr, AV.nils]], frz := false, pm := true }] = strings_Builder_WriteByte_F_t c none (fun (p : Int) => some (((AV.top, ([⟨0, (2 : Nat), (50 : Nat), [AV.agg [AV.own 0 0 0 0, AV.osl 1 0 0 1]], false, false⟩, ⟨0, (1 : Nat), (5 : Nat), [AV.int IntKind.u8 p], false, true⟩] : List Box))) : (AV × List Box))) := by kernel_rfl
  rw [h]; unfold strings_Builder_WriteByte_F strings_Builder_WriteByte_F_pre strings_Builder_WriteByte_F_t; repeat' (first | exact Pre.none | exact Pre.tt rfl | exact Pre.some rfl | refine Pre.l ?_ | refine Pre.r ?_ | refine Pre.br (f := fun (p : Int) => (((AV.top, ([⟨0, (2 : Nat), (50 : Nat), [AV.agg [AV.own 0 0 0 0, AV.osl 1 0 0 1]], false, false⟩, ⟨0, (1 : Nat), (5 : Nat), [AV.int IntKind.u8 p], false, true⟩] : List Box))) : (AV × List Box))) ?_ ?_ | refine Pre.brt (f := fun (p : Int) => (((AV.top, ([⟨0, (2 : Nat), (50 : Nat), [AV.agg [AV.own 0 0 0 0, AV.osl 1 0 0 1]], false, false⟩, ⟨0, (1 : Nat), (5 : Nat), [AV.int IntKind.u8 p], false, true⟩] : List Box))) : (AV × List Box))) ?_ ?_)
noncomputable def strings_Builder_WriteByte_F_o : List AV → List Box → Option (Bool × AV × List Box) := omOf (sCons (sEq (pOwn (0 : Nat) (0 : Nat) (0 : Nat) (0 : Nat))) (sCons (sEq (pInt IntKind.u8)) sNil)) (pCons (pBox (0 : Nat) (2 : Nat) (50 : TypeId) false true (pCons (pAgg (pCons pNilptr (pCons pNils pNil))) pNil)) pNil) fun (_, (c, _)) (((_, (_, _)), _), _) => (true, ((AV.top, ([⟨0, (2 : Nat), (50 : Nat), [AV.agg [AV.own 0 0 0 0, AV.osl 1 0 0 1]], false, false⟩, ⟨0, (1 : Nat), (5 : Nat), [AV.int IntKind.u8 (strings_Builder_WriteByte_F c)], false, true⟩] : List Box))))
theorem strings_Builder_WriteByte_F_c : OmOk Tryd.prog ITryd 15 (strings_Builder_WriteByte_F_o) := omOk_of fun vv bb rr hh' hh => by
  obtain ⟨_, ⟨c, _⟩⟩ := vv
  obtain ⟨⟨⟨_, ⟨_, _⟩⟩, _⟩, _⟩ := bb
  obtain ⟨hh1, hh2⟩ := Prod.mk.inj hh
  refine goodM_pin (p := strings_Builder_WriteByte_F_E0.pin) (goodM_XFM mxTryd (inv0Ok Tryd.prog _) rfl strings_Builder_WriteByte_F_E0_ok rfl Tryd.func15 rfl (by kernel_rfl) strings_Builder_WriteByte_F_E0_lk15 ((Pre.get (strings_Builder_WriteByte_F_x _) rfl).trans ?_))
  exact congrArg some hh2


noncomputable def EE1_1 : Env := EK2.withM 15 strings_Builder_WriteByte_F_o

theorem EE1_1_ok : OrcOk Tryd.prog ITryd EE1_1 := EK2_ok.withM strings_Builder_WriteByte_F_c

/-- The environment of (*strings.Builder).WriteByte: its loops so far. -/

noncomputable def strings_Builder_WriteByte_U0_E0 : Env := EE1_1.fn 17 2 (lsOf []) (lpsOf [])

theorem strings_Builder_WriteByte_U0_E0_ok : OrcOk Tryd.prog (ITryd.at 2) strings_Builder_WriteByte_U0_E0 := EE1_1_ok.fn

theorem strings_Builder_WriteByte_U0_E0_lk15 : LoOk Tryd.prog (ITryd.at strings_Builder_WriteByte_U0_E0.pin) strings_Builder_WriteByte_U0_E0 (Tryd.f15.body.getD .skip) := loOk_nil (by kernel_rfl)

/- 3 nodes -/
noncomputable def strings_Builder_WriteByte_U0_t {T : Type} (c : Int) (n : Nat) (xs : List AV) (δ : T) (κ : Nat × List AV → T) : T := br (n == xs.length && (decide ((n + (1 : Nat)) * (1 : Nat) ≤ (140737488355328 : Nat)) && decide (n + (1 : Nat) ≤ (4611686018427387904 : Nat)))) (κ (n + (1 : Nat), xs ++ [AV.int IntKind.u8 c])) (δ)
noncomputable def strings_Builder_WriteByte_U0 (c : Int) (n : Nat) (xs : List AV) : Option (Nat × List AV) := strings_Builder_WriteByte_U0_t c n xs none some
theorem strings_Builder_WriteByte_U0_x (c : Int) (n : Nat) (xs : List AV) : Enc (fun (p : Nat × List AV) => (((AV.top, ([⟨0, (2 : Nat), (50 : Nat), [AV.agg [AV.own 0 0 0 0, AV.osl 1 1 0 p.1]], false, false⟩, ⟨1, (1 : Nat), (5 : Nat), p.2, false, true⟩] : List Box))) : (AV × List Box))) (strings_Builder_WriteByte_U0 c n xs) (XFM Tryd.prog strings_Builder_WriteByte_U0_E0 Tryd.f15 (Tryd.f15.body.getD .skip) [AV.own (0 : Nat) (0 : Nat) (0 : Nat) (0 : Nat), AV.int IntKind.u8 c] [{ ver := (0 : Nat), sz := (2 : Nat), ty := (50 : TypeId), xs := [AV.agg [AV.own (0 : Nat) (0 : Nat) (0 : Nat) (0 : Nat), AV.osl (1 : Nat) (0 : Nat) (0 : Nat) n]], frz := false, pm := false }, { ver := (0 : Nat), sz := (1 : Nat), ty := (5 : TypeId), xs := xs, frz := false, pm := true }]) := by
  have h : XFM Tryd.prog strings_Builder_WriteByte_U0_E0 Tryd.f15 (Tryd.f15.body.getD .skip) [AV.own (0 : Nat) (0 : Nat) (0 : Nat) (0 : Nat), AV.int IntKind.u8 c] [{ ver := (0 : Nat), sz := (2 : Nat), ty := (50 : TypeId), xs := [AV.agg [AV.own (0 : Nat) (0 : Nat) (0 : Nat) (0 : Nat), AV.osl (1 : Nat) (0 : Nat) (0 : Nat) n]], frz := false, pm := false }, { ver := (0 : Nat), sz := (1 : Nat), ty := (5 : TypeId), xs := xs, frz := false, pm := true }] = strings_Builder_WriteByte_U0_t c n xs none (fun (p : Nat × List AV) => some (((AV.top, ([⟨0, (2 : Nat), (50 : Nat), [AV.agg [AV.own 0 0 0 0, AV.osl 1 1 0 p.1]], false, false⟩, ⟨1, (1 : Nat), (5 : Nat), p.2, false, true⟩] : List Box))) : (AV × List Box))) := by kernel_rfl
  rw [h]; unfold strings_Builder_WriteByte_U0 strings_Builder_WriteByte_U0_t; repeat' (first | exact Enc.none | exact Enc.some rfl | refine Enc.br ?_ ?_)
noncomputable def strings_Builder_WriteByte_U0_o : List AV → List Box → Option (Bool × AV × List Box) := omOf (sCons (sEq (pOwn (0 : Nat) (0 : Nat) (0 : Nat) (0 : Nat))) (sCons (sEq (pInt IntKind.u8)) sNil)) (pCons (pBox (0 : Nat) (2 : Nat) (50 : TypeId) false false (pCons (pAgg (pCons (pOwn (0 : Nat) (0 : Nat) (0 : Nat) (0 : Nat)) (pCons (pOsl (1 : Nat) (0 : Nat) (0 : Nat)) pNil))) pNil)) (pCons (pBox (0 : Nat) (1 : Nat) (5 : TypeId) false true pAny) pNil)) fun (_, (c, _)) (((_, (n, _)), _), (xs, _)) => ((strings_Builder_WriteByte_U0 c n xs).isSome, ((AV.top, ([⟨0, (2 : Nat), (50 : Nat), [AV.agg [AV.own 0 0 0 0, AV.osl 1 1 0 ((strings_Builder_WriteByte_U0 c n xs).getD (0, [])).1]], false, false⟩, ⟨1, (1 : Nat), (5 : Nat), ((strings_Builder_WriteByte_U0 c n xs).getD (0, [])).2, false, true⟩] : List Box))))
theorem strings_Builder_WriteByte_U0_c : OmOk Tryd.prog ITryd 15 (strings_Builder_WriteByte_U0_o) := omOk_of fun vv bb rr hh' hh => by
  obtain ⟨_, ⟨c, _⟩⟩ := vv
  obtain ⟨⟨⟨_, ⟨n, _⟩⟩, _⟩, ⟨xs, _⟩⟩ := bb
  obtain ⟨hh1, hh2⟩ := Prod.mk.inj hh
  refine goodM_pin (p := strings_Builder_WriteByte_U0_E0.pin) (goodM_XFM mxTryd (inv0Ok Tryd.prog _) rfl strings_Builder_WriteByte_U0_E0_ok rfl Tryd.func15 rfl (by kernel_rfl) strings_Builder_WriteByte_U0_E0_lk15 ((strings_Builder_WriteByte_U0_x _ _ _ _ (getD_of_isSome (d := (0, [])) hh1)).trans ?_))
  exact congrArg some hh2


noncomputable def EE1_2 : Env := EE1_1.withM 15 strings_Builder_WriteByte_U0_o

theorem EE1_2_ok : OrcOk Tryd.prog ITryd EE1_2 := EE1_1_ok.withM strings_Builder_WriteByte_U0_c

/-- The environment of (*strings.Builder).WriteByte: its loops so far. -/

noncomputable def strings_Builder_WriteByte_U1_E0 : Env := EE1_2.fn 17 2 (lsOf []) (lpsOf [])

theorem strings_Builder_WriteByte_U1_E0_ok : OrcOk Tryd.prog (ITryd.at 2) strings_Builder_WriteByte_U1_E0 := EE1_2_ok.fn

theorem strings_Builder_WriteByte_U1_E0_lk15 : LoOk Tryd.prog (ITryd.at strings_Builder_WriteByte_U1_E0.pin) strings_Builder_WriteByte_U1_E0 (Tryd.f15.body.getD .skip) := loOk_nil (by kernel_rfl)

/- 3 nodes -/
noncomputable def strings_Builder_WriteByte_U1_t {T : Type} (c : Int) (n : Nat) (xs : List AV) (δ : T) (κ : Nat × List AV → T) : T := br (n == xs.length && (decide ((n + (1 : Nat)) * (1 : Nat) ≤ (140737488355328 : Nat)) && decide (n + (1 : Nat) ≤ (4611686018427387904 : Nat)))) (κ (n + (1 : Nat), xs ++ [AV.int IntKind.u8 c])) (δ)
noncomputable def strings_Builder_WriteByte_U1 (c : Int) (n : Nat) (xs : List AV) : Option (Nat × List AV) := strings_Builder_WriteByte_U1_t c n xs none some
theorem strings_Builder_WriteByte_U1_x (c : Int) (n : Nat) (xs : List AV) : Enc (fun (p : Nat × List AV) => (((AV.top, ([⟨0, (2 : Nat), (50 : Nat), [AV.agg [AV.own 0 0 0 0, AV.osl 1 2 0 p.1]], false, false⟩, ⟨2, (1 : Nat), (5 : Nat), p.2, false, true⟩] : List Box))) : (AV × List Box))) (strings_Builder_WriteByte_U1 c n xs) (XFM Tryd.prog strings_Builder_WriteByte_U1_E0 Tryd.f15 (Tryd.f15.body.getD .skip) [AV.own (0 : Nat) (0 : Nat) (0 : Nat) (0 : Nat), AV.int IntKind.u8 c] [{ ver := (0 : Nat), sz := (2 : Nat), ty := (50 : TypeId), xs := [AV.agg [AV.own (0 : Nat) (0 : Nat) (0 : Nat) (0 : Nat), AV.osl (1 : Nat) (1 : Nat) (0 : Nat) n]], frz := false, pm := false }, { ver := (1 : Nat), sz := (1 : Nat), ty := (5 : TypeId), xs := xs, frz := false, pm := true }]) := by
  have h : XFM Tryd.prog strings_Builder_WriteByte_U1_E0 Tryd.f15 (Tryd.f15.body.getD .skip) [AV.own (0 : Nat) (0 : Nat) (0 : Nat) (0 : Nat), AV.int IntKind.u8 c] [{ ver := (0 : Nat), sz := (2 : Nat), ty := (50 : TypeId), xs := [AV.agg [AV.own (0 : Nat) (0 : Nat) (0 : Nat) (0 : Nat), AV.osl (1 : Nat) (1 : Nat) (0 : Nat) n]], frz := false, pm := false }, { ver := (1 : Nat), sz := (1 : Nat), ty := (5 : TypeId), xs := xs, frz := false, pm := true }] = strings_Builder_WriteByte_U1_t c n xs none (fun (p : Nat × List AV) => some (((AV.top, ([⟨0, (2 : Nat), (50 : Nat), [AV.agg [AV.own 0 0 0 0, AV.osl 1 2 0 p.1]], false, false⟩, ⟨2, (1 : Nat), (5 : Nat), p.2, false, true⟩] : List Box))) : (AV × List Box))) := by kernel_rfl
  rw [h]; unfold strings_Builder_WriteByte_U1 strings_Builder_WriteByte_U1_t; repeat' (first | exact Enc.none | exact Enc.some rfl | refine Enc.br ?_ ?_)
noncomputable def strings_Builder_WriteByte_U1_o : List AV → List Box → Option (Bool × AV × List Box) := omOf (sCons (sEq (pOwn (0 : Nat) (0 : Nat) (0 : Nat) (0 : Nat))) (sCons (sEq (pInt IntKind.u8)) sNil)) (pCons (pBox (0 : Nat) (2 : Nat) (50 : TypeId) false false (pCons (pAgg (pCons (pOwn (0 : Nat) (0 : Nat) (0 : Nat) (0 : Nat)) (pCons (pOsl (1 : Nat) (1 : Nat) (0 : Nat)) pNil))) pNil)) (pCons (pBox (1 : Nat) (1 : Nat) (5 : TypeId) false true pAny) pNil)) fun (_, (c, _)) (((_, (n, _)), _), (xs, _)) => ((strings_Builder_WriteByte_U1 c n xs).isSome, ((AV.top, ([⟨0, (2 : Nat), (50 : Nat), [AV.agg [AV.own 0 0 0 0, AV.osl 1 2 0 ((strings_Builder_WriteByte_U1 c n xs).getD (0, [])).1]], false, false⟩, ⟨2, (1 : Nat), (5 : Nat), ((strings_Builder_WriteByte_U1 c n xs).getD (0, [])).2, false, true⟩] : List Box))))
theorem strings_Builder_WriteByte_U1_c : OmOk Tryd.prog ITryd 15 (strings_Builder_WriteByte_U1_o) := omOk_of fun vv bb rr hh' hh => by
  obtain ⟨_, ⟨c, _⟩⟩ := vv
  obtain ⟨⟨⟨_, ⟨n, _⟩⟩, _⟩, ⟨xs, _⟩⟩ := bb
  obtain ⟨hh1, hh2⟩ := Prod.mk.inj hh
  refine goodM_pin (p := strings_Builder_WriteByte_U1_E0.pin) (goodM_XFM mxTryd (inv0Ok Tryd.prog _) rfl strings_Builder_WriteByte_U1_E0_ok rfl Tryd.func15 rfl (by kernel_rfl) strings_Builder_WriteByte_U1_E0_lk15 ((strings_Builder_WriteByte_U1_x _ _ _ _ (getD_of_isSome (d := (0, [])) hh1)).trans ?_))
  exact congrArg some hh2


noncomputable def EE1_3 : Env := EE1_2.withM 15 strings_Builder_WriteByte_U1_o

theorem EE1_3_ok : OrcOk Tryd.prog ITryd EE1_3 := EE1_2_ok.withM strings_Builder_WriteByte_U1_c

/-- The environment of bitemporal/period.Valid: its loops so far. -/

noncomputable def period_Valid_E0 : Env := EE1_3.fn 18 0 (lsOf []) (lpsOf [])

theorem period_Valid_E0_ok : OrcOk Tryd.prog (ITryd.at 0) period_Valid_E0 := EE1_3_ok.fn

theorem period_Valid_E0_lk13 : LoOk Tryd.prog (ITryd.at period_Valid_E0.pin) period_Valid_E0 (Tryd.f13.body.getD .skip) := loOk_nil (by kernel_rfl)

/- 5 nodes -/
noncomputable def period_Valid (p0_f : Int) (p0_t : Int) : Bool := (br (decide (p0_f ≥ (0 : Int))) (br (decide (p0_f < p0_t)) ((decide (p0_t ≤ (1099511627776 : Int)))) ((false))) ((false)))
noncomputable def period_Valid_pre (p0_f : Int) (p0_t : Int) : Bool := true
noncomputable def period_Valid_t {T : Type} (p0_f : Int) (p0_t : Int) (δ : T) (κ : Bool → T) : T := br (decide (p0_f ≥ (0 : Int))) (br (decide (p0_f < p0_t)) (κ (decide (p0_t ≤ (1099511627776 : Int)))) (κ (false))) (κ (false))
theorem period_Valid_x (p0_f : Int) (p0_t : Int) : Pre (period_Valid_pre p0_f p0_t) (XF Tryd.prog period_Valid_E0 Tryd.f13 (Tryd.f13.body.getD .skip) [AV.agg [AV.int IntKind.i64 p0_f, AV.int IntKind.i64 p0_t]]) (AV.bool (period_Valid p0_f p0_t)) := by
  have h : XF Tryd.prog period_Valid_E0 Tryd.f13 (Tryd.f13.body.getD .skip) [AV.agg [AV.int IntKind.i64 p0_f, AV.int IntKind.i64 p0_t]] = period_Valid_t p0_f p0_t none (fun (p : Bool) => some ((AV.bool p) : AV)) := by kernel_rfl
  rw [h]; unfold period_Valid period_Valid_pre period_Valid_t; repeat' (first | exact Pre.none | exact Pre.tt rfl | exact Pre.some rfl | refine Pre.l ?_ | refine Pre.r ?_ | refine Pre.br (f := fun (p : Bool) => ((AV.bool p) : AV)) ?_ ?_ | refine Pre.brt (f := fun (p : Bool) => ((AV.bool p) : AV)) ?_ ?_)
noncomputable def period_Valid_o : List AV → Option (Bool × AV) := ocOf (sCons (sAgg (sCons (sEq (pInt IntKind.i64)) (sCons (sEq (pInt IntKind.i64)) sNil))) sNil) fun ((p0_f, (p0_t, _)), _) => (true, (AV.bool (period_Valid p0_f p0_t)))
theorem period_Valid_c : OcOk Tryd.prog ITryd 13 (period_Valid_o) := ocOk_of fun vv rr hh => by
  obtain ⟨⟨p0_f, ⟨p0_t, _⟩⟩, _⟩ := vv
  obtain ⟨hh1, hh2⟩ := Prod.mk.inj hh
  refine good_pin (p := period_Valid_E0.pin) (good_XF mxTryd (inv0Ok Tryd.prog _) rfl period_Valid_E0_ok Tryd.func13 rfl (by kernel_rfl) period_Valid_E0_lk13 ((Pre.get (period_Valid_x _ _) rfl).trans ?_))
  exact congrArg some hh2


noncomputable def EE1_4 : Env := EE1_3.with 13 period_Valid_o

theorem EE1_4_ok : OrcOk Tryd.prog ITryd EE1_4 := EE1_3_ok.with period_Valid_c

/-- The environment of bitemporal/report.line: its loops so far. -/

noncomputable def report_line_E0 : Env := EE1_4.fn 9 0 (lsOf []) (lpsOf [])

theorem report_line_E0_ok : OrcOk Tryd.prog (ITryd.at 0) report_line_E0 := EE1_4_ok.fn

theorem report_line_E0_lk17 : LoOk Tryd.prog (ITryd.at report_line_E0.pin) report_line_E0 (Tryd.f17.body.getD .skip) := loOk_nil (by kernel_rfl)

/- 5 nodes -/
noncomputable def report_line_t {T : Type} (separator : List UInt8) (parts : List AV) (δ : T) (κ : List UInt8 → T) : T := br (parts.all AV.isStr && (decide (parts.length ≤ (140737488355328 : Nat)) && decide ((Lib.join (List.map AV.toStr parts) separator).length ≤ (140737488355328 : Nat)))) (br (decide ((Lib.join (List.map AV.toStr parts) separator).length + (1 : Nat) ≤ (4611686018427387904 : Nat))) (κ (Lib.join (List.map AV.toStr parts) separator ++ [(10 : UInt8)])) (δ)) (δ)
noncomputable def report_line (separator : List UInt8) (parts : List AV) : Option (List UInt8) := report_line_t separator parts none some
theorem report_line_x (separator : List UInt8) (parts : List AV) : Enc (fun (p : List UInt8) => ((AV.str p) : AV)) (report_line separator parts) (XF Tryd.prog report_line_E0 Tryd.f17 (Tryd.f17.body.getD .skip) [AV.str separator, AV.list (1 : Nat) parts]) := by
  have h : XF Tryd.prog report_line_E0 Tryd.f17 (Tryd.f17.body.getD .skip) [AV.str separator, AV.list (1 : Nat) parts] = report_line_t separator parts none (fun (p : List UInt8) => some ((AV.str p) : AV)) := by kernel_rfl
  rw [h]; unfold report_line report_line_t; repeat' (first | exact Enc.none | exact Enc.some rfl | refine Enc.br ?_ ?_)
noncomputable def report_line_o : List AV → Option (Bool × AV) := ocOf (sCons (sEq pStr) (sCons (sList (1 : Nat) pAny) sNil)) fun (separator, (parts, _)) => ((report_line separator parts).isSome, (AV.str ((report_line separator parts).getD [])))
theorem report_line_c : OcOk Tryd.prog ITryd 17 (report_line_o) := ocOk_of fun vv rr hh => by
  obtain ⟨separator, ⟨parts, _⟩⟩ := vv
  obtain ⟨hh1, hh2⟩ := Prod.mk.inj hh
  refine good_pin (p := report_line_E0.pin) (good_XF mxTryd (inv0Ok Tryd.prog _) rfl report_line_E0_ok Tryd.func17 rfl (by kernel_rfl) report_line_E0_lk17 ((report_line_x _ _ _ (getD_of_isSome (d := []) hh1)).trans ?_))
  exact congrArg some hh2


noncomputable def EE1_5 : Env := EE1_4.with 17 report_line_o

theorem EE1_5_ok : OrcOk Tryd.prog ITryd EE1_5 := EE1_4_ok.with report_line_c

/-- The environment of bitemporal/bitemporalref01.Valid: its loops so far. -/

noncomputable def ref01_Valid_E0 : Env := EE1_5.fn 18 0 (lsOf []) (lpsOf [])

theorem ref01_Valid_E0_ok : OrcOk Tryd.prog (ITryd.at 0) ref01_Valid_E0 := EE1_5_ok.fn

theorem ref01_Valid_E0_lk9 : LoOk Tryd.prog (ITryd.at ref01_Valid_E0.pin) ref01_Valid_E0 (Tryd.f9.body.getD .skip) := loOk_nil (by kernel_rfl)

/- 5 nodes -/
noncomputable def ref01_Valid (p0_f : Int) (p0_t : Int) : Bool := (br (decide (p0_f ≥ (0 : Int))) (br (decide (p0_f < p0_t)) ((decide (p0_t ≤ (1099511627776 : Int)))) ((false))) ((false)))
noncomputable def ref01_Valid_pre (p0_f : Int) (p0_t : Int) : Bool := true
noncomputable def ref01_Valid_t {T : Type} (p0_f : Int) (p0_t : Int) (δ : T) (κ : Bool → T) : T := br (decide (p0_f ≥ (0 : Int))) (br (decide (p0_f < p0_t)) (κ (decide (p0_t ≤ (1099511627776 : Int)))) (κ (false))) (κ (false))
theorem ref01_Valid_x (p0_f : Int) (p0_t : Int) : Pre (ref01_Valid_pre p0_f p0_t) (XF Tryd.prog ref01_Valid_E0 Tryd.f9 (Tryd.f9.body.getD .skip) [AV.agg [AV.int IntKind.i64 p0_f, AV.int IntKind.i64 p0_t]]) (AV.bool (ref01_Valid p0_f p0_t)) := by
  have h : XF Tryd.prog ref01_Valid_E0 Tryd.f9 (Tryd.f9.body.getD .skip) [AV.agg [AV.int IntKind.i64 p0_f, AV.int IntKind.i64 p0_t]] = ref01_Valid_t p0_f p0_t none (fun (p : Bool) => some ((AV.bool p) : AV)) := by kernel_rfl
  rw [h]; unfold ref01_Valid ref01_Valid_pre ref01_Valid_t; repeat' (first | exact Pre.none | exact Pre.tt rfl | exact Pre.some rfl | refine Pre.l ?_ | refine Pre.r ?_ | refine Pre.br (f := fun (p : Bool) => ((AV.bool p) : AV)) ?_ ?_ | refine Pre.brt (f := fun (p : Bool) => ((AV.bool p) : AV)) ?_ ?_)
noncomputable def ref01_Valid_o : List AV → Option (Bool × AV) := ocOf (sCons (sAgg (sCons (sEq (pInt IntKind.i64)) (sCons (sEq (pInt IntKind.i64)) sNil))) sNil) fun ((p0_f, (p0_t, _)), _) => (true, (AV.bool (ref01_Valid p0_f p0_t)))
theorem ref01_Valid_c : OcOk Tryd.prog ITryd 9 (ref01_Valid_o) := ocOk_of fun vv rr hh => by
  obtain ⟨⟨p0_f, ⟨p0_t, _⟩⟩, _⟩ := vv
  obtain ⟨hh1, hh2⟩ := Prod.mk.inj hh
  refine good_pin (p := ref01_Valid_E0.pin) (good_XF mxTryd (inv0Ok Tryd.prog _) rfl ref01_Valid_E0_ok Tryd.func9 rfl (by kernel_rfl) ref01_Valid_E0_lk9 ((Pre.get (ref01_Valid_x _ _) rfl).trans ?_))
  exact congrArg some hh2


noncomputable def EE1_6 : Env := EE1_5.with 9 ref01_Valid_o

theorem EE1_6_ok : OrcOk Tryd.prog ITryd EE1_6 := EE1_5_ok.with ref01_Valid_c

noncomputable abbrev EE1 : Env := EE1_6

theorem EE1_ok : OrcOk Tryd.prog ITryd EE1 := EE1_6_ok

end Go.Sim.M
