/- Functions of the program as the executor found them: printed by program, checked by the kernel. -/
import Derived.Test.YtpnibjljhfgjaaaGreatDoorLibR0
set_option linter.unusedVariables false
set_option linter.unusedSimpArgs false
set_option maxRecDepth 100000
namespace Go.Sim.M
open Go.RowKit Go.Proofs

/-- The environment of (*strings.Builder).WriteString: its loops so far. -/

noncomputable def strings_Builder_WriteString_F_E0 : Env := E0.fn 19 1 (lsOf []) (lpsOf [])

theorem strings_Builder_WriteString_F_E0_ok : OrcOk Tryz.prog (ITryz.at 1) strings_Builder_WriteString_F_E0 := E0_ok.fn

theorem strings_Builder_WriteString_F_E0_lk55 : LoOk Tryz.prog (ITryz.at strings_Builder_WriteString_F_E0.pin) strings_Builder_WriteString_F_E0 (Tryz.f55.body.getD .skip) := loOk_nil (by kernel_rfl)

/- 3 nodes -/
noncomputable def strings_Builder_WriteString_F_t {T : Type} (s0 : List UInt8) (δ : T) (κ : Int × Nat × List AV → T) : T := br (decide ((byteAVs s0).length * (1 : Nat) ≤ (140737488355328 : Nat)) && decide ((byteAVs s0).length ≤ (4611686018427387904 : Nat))) (κ ((↑s0.length : Int), (byteAVs s0).length, byteAVs s0)) (δ)
noncomputable def strings_Builder_WriteString_F (s0 : List UInt8) : Option (Int × Nat × List AV) := strings_Builder_WriteString_F_t s0 none some
theorem strings_Builder_WriteString_F_x (s0 : List UInt8) : Enc (fun (p : Int × Nat × List AV) => (((AV.tuple [AV.int IntKind.i64 p.1, AV.top], ([⟨0, (2 : Nat), (74 : Nat), [AV.agg [AV.own 0 0 0 0, AV.osl 1 0 0 p.2.1]], false, false⟩, ⟨0, (1 : Nat), (5 : Nat), p.2.2, false, true⟩] : List Box))) : (AV × List Box))) (strings_Builder_WriteString_F s0) (XFM Tryz.prog strings_Builder_WriteString_F_E0 Tryz.f55 (Tryz.f55.body.getD .skip) [AV.own (0 : Nat) (0 : Nat) (0 : Nat) (0 : Nat), AV.str s0] [{ ver := (0 : Nat), sz := (2 : Nat), ty := (74 : TypeId), xs := [AV.agg [AV.nilptr, AV.nils]], frz := false, pm := true }]) := by
  have h : XFM Tryz.prog strings_Builder_WriteString_F_E0 Tryz.f55 (Tryz.f55.body.getD .skip) [AV.own (0 : Nat) (0 : Nat) (0 : Nat) (0 : Nat), AV.str s0] [{ ver := (0 : Nat), sz := (2 : Nat), ty := (74 : TypeId), xs := [AV.agg [AV.nilptr, AV.nils]], frz := false, pm := true }] = strings_Builder_WriteString_F_t s0 none (fun (p : Int × Nat × List AV) => some (((AV.tuple [AV.int IntKind.i64 p.1, AV.top], ([⟨0, (2 : Nat), (74 : Nat), [AV.agg [AV.own 0 0 0 0, AV.osl 1 0 0 p.2.1]], false, false⟩, ⟨0, (1 : Nat), (5 : Nat), p.2.2, false, true⟩] : List Box))) : (AV × List Box))) := by kernel_rfl
  rw [h]; unfold strings_Builder_WriteString_F strings_Builder_WriteString_F_t; repeat' (first | exact Enc.none | exact Enc.some rfl | refine Enc.br ?_ ?_)
noncomputable def strings_Builder_WriteString_F_o : List AV → List Box → Option (Bool × AV × List Box) := omOf (sCons (sEq (pOwn (0 : Nat) (0 : Nat) (0 : Nat) (0 : Nat))) (sCons (sEq pStr) sNil)) (pCons (pBox (0 : Nat) (2 : Nat) (74 : TypeId) false true (pCons (pAgg (pCons pNilptr (pCons pNils pNil))) pNil)) pNil) fun (_, (s0, _)) (((_, (_, _)), _), _) => ((strings_Builder_WriteString_F s0).isSome, ((AV.tuple [AV.int IntKind.i64 ((strings_Builder_WriteString_F s0).getD (0, 0, [])).1, AV.top], ([⟨0, (2 : Nat), (74 : Nat), [AV.agg [AV.own 0 0 0 0, AV.osl 1 0 0 ((strings_Builder_WriteString_F s0).getD (0, 0, [])).2.1]], false, false⟩, ⟨0, (1 : Nat), (5 : Nat), ((strings_Builder_WriteString_F s0).getD (0, 0, [])).2.2, false, true⟩] : List Box))))
theorem strings_Builder_WriteString_F_c : OmOk Tryz.prog ITryz 55 (strings_Builder_WriteString_F_o) := omOk_of fun vv bb rr hh' hh => by
  obtain ⟨_, ⟨s0, _⟩⟩ := vv
  obtain ⟨⟨⟨_, ⟨_, _⟩⟩, _⟩, _⟩ := bb
  obtain ⟨hh1, hh2⟩ := Prod.mk.inj hh
  refine goodM_pin (p := strings_Builder_WriteString_F_E0.pin) (goodM_XFM mxTryz (inv0Ok Tryz.prog _) rfl strings_Builder_WriteString_F_E0_ok rfl Tryz.func55 rfl (by kernel_rfl) strings_Builder_WriteString_F_E0_lk55 ((strings_Builder_WriteString_F_x _ _ (getD_of_isSome (d := (0, 0, [])) hh1)).trans ?_))
  exact congrArg some hh2


noncomputable def EK1_1 : Env := E0.withM 55 strings_Builder_WriteString_F_o

theorem EK1_1_ok : OrcOk Tryz.prog ITryz EK1_1 := E0_ok.withM strings_Builder_WriteString_F_c

/-- The environment of (*strings.Builder).WriteString: its loops so far. -/

noncomputable def strings_Builder_WriteString_U0_E0 : Env := EK1_1.fn 19 2 (lsOf []) (lpsOf [])

theorem strings_Builder_WriteString_U0_E0_ok : OrcOk Tryz.prog (ITryz.at 2) strings_Builder_WriteString_U0_E0 := EK1_1_ok.fn

theorem strings_Builder_WriteString_U0_E0_lk55 : LoOk Tryz.prog (ITryz.at strings_Builder_WriteString_U0_E0.pin) strings_Builder_WriteString_U0_E0 (Tryz.f55.body.getD .skip) := loOk_nil (by kernel_rfl)

/- 3 nodes -/
noncomputable def strings_Builder_WriteString_U0_t {T : Type} (s0 : List UInt8) (n : Nat) (xs : List AV) (δ : T) (κ : Int × Nat × List AV → T) : T := br (n == xs.length && (decide ((n + (byteAVs s0).length) * (1 : Nat) ≤ (140737488355328 : Nat)) && decide (n + (byteAVs s0).length ≤ (4611686018427387904 : Nat)))) (κ ((↑s0.length : Int), n + (byteAVs s0).length, xs ++ byteAVs s0)) (δ)
noncomputable def strings_Builder_WriteString_U0 (s0 : List UInt8) (n : Nat) (xs : List AV) : Option (Int × Nat × List AV) := strings_Builder_WriteString_U0_t s0 n xs none some
theorem strings_Builder_WriteString_U0_x (s0 : List UInt8) (n : Nat) (xs : List AV) : Enc (fun (p : Int × Nat × List AV) => (((AV.tuple [AV.int IntKind.i64 p.1, AV.top], ([⟨0, (2 : Nat), (74 : Nat), [AV.agg [AV.own 0 0 0 0, AV.osl 1 1 0 p.2.1]], false, false⟩, ⟨1, (1 : Nat), (5 : Nat), p.2.2, false, true⟩] : List Box))) : (AV × List Box))) (strings_Builder_WriteString_U0 s0 n xs) (XFM Tryz.prog strings_Builder_WriteString_U0_E0 Tryz.f55 (Tryz.f55.body.getD .skip) [AV.own (0 : Nat) (0 : Nat) (0 : Nat) (0 : Nat), AV.str s0] [{ ver := (0 : Nat), sz := (2 : Nat), ty := (74 : TypeId), xs := [AV.agg [AV.own (0 : Nat) (0 : Nat) (0 : Nat) (0 : Nat), AV.osl (1 : Nat) (0 : Nat) (0 : Nat) n]], frz := false, pm := false }, { ver := (0 : Nat), sz := (1 : Nat), ty := (5 : TypeId), xs := xs, frz := false, pm := true }]) := by
  have h : XFM Tryz.prog strings_Builder_WriteString_U0_E0 Tryz.f55 (Tryz.f55.body.getD .skip) [AV.own (0 : Nat) (0 : Nat) (0 : Nat) (0 : Nat), AV.str s0] [{ ver := (0 : Nat), sz := (2 : Nat), ty := (74 : TypeId), xs := [AV.agg [AV.own (0 : Nat) (0 : Nat) (0 : Nat) (0 : Nat), AV.osl (1 : Nat) (0 : Nat) (0 : Nat) n]], frz := false, pm := false }, { ver := (0 : Nat), sz := (1 : Nat), ty := (5 : TypeId), xs := xs, frz := false, pm := true }] = strings_Builder_WriteString_U0_t s0 n xs none (fun (p : Int × Nat × List AV) => some (((AV.tuple [AV.int IntKind.i64 p.1, AV.top], ([⟨0, (2 : Nat), (74 : Nat), [AV.agg [AV.own 0 0 0 0, AV.osl 1 1 0 p.2.1]], false, false⟩, ⟨1, (1 : Nat), (5 : Nat), p.2.2, false, true⟩] : List Box))) : (AV × List Box))) := by kernel_rfl
  rw [h]; unfold strings_Builder_WriteString_U0 strings_Builder_WriteString_U0_t; repeat' (first | exact Enc.none | exact Enc.some rfl | refine Enc.br ?_ ?_)
noncomputable def strings_Builder_WriteString_U0_o : List AV → List Box → Option (Bool × AV × List Box) := omOf (sCons (sEq (pOwn (0 : Nat) (0 : Nat) (0 : Nat) (0 : Nat))) (sCons (sEq pStr) sNil)) (pCons (pBox (0 : Nat) (2 : Nat) (74 : TypeId) false false (pCons (pAgg (pCons (pOwn (0 : Nat) (0 : Nat) (0 : Nat) (0 : Nat)) (pCons (pOsl (1 : Nat) (0 : Nat) (0 : Nat)) pNil))) pNil)) (pCons (pBox (0 : Nat) (1 : Nat) (5 : TypeId) false true pAny) pNil)) fun (_, (s0, _)) (((_, (n, _)), _), (xs, _)) => ((strings_Builder_WriteString_U0 s0 n xs).isSome, ((AV.tuple [AV.int IntKind.i64 ((strings_Builder_WriteString_U0 s0 n xs).getD (0, 0, [])).1, AV.top], ([⟨0, (2 : Nat), (74 : Nat), [AV.agg [AV.own 0 0 0 0, AV.osl 1 1 0 ((strings_Builder_WriteString_U0 s0 n xs).getD (0, 0, [])).2.1]], false, false⟩, ⟨1, (1 : Nat), (5 : Nat), ((strings_Builder_WriteString_U0 s0 n xs).getD (0, 0, [])).2.2, false, true⟩] : List Box))))
theorem strings_Builder_WriteString_U0_c : OmOk Tryz.prog ITryz 55 (strings_Builder_WriteString_U0_o) := omOk_of fun vv bb rr hh' hh => by
  obtain ⟨_, ⟨s0, _⟩⟩ := vv
  obtain ⟨⟨⟨_, ⟨n, _⟩⟩, _⟩, ⟨xs, _⟩⟩ := bb
  obtain ⟨hh1, hh2⟩ := Prod.mk.inj hh
  refine goodM_pin (p := strings_Builder_WriteString_U0_E0.pin) (goodM_XFM mxTryz (inv0Ok Tryz.prog _) rfl strings_Builder_WriteString_U0_E0_ok rfl Tryz.func55 rfl (by kernel_rfl) strings_Builder_WriteString_U0_E0_lk55 ((strings_Builder_WriteString_U0_x _ _ _ _ (getD_of_isSome (d := (0, 0, [])) hh1)).trans ?_))
  exact congrArg some hh2


noncomputable def EK1_2 : Env := EK1_1.withM 55 strings_Builder_WriteString_U0_o

theorem EK1_2_ok : OrcOk Tryz.prog ITryz EK1_2 := EK1_1_ok.withM strings_Builder_WriteString_U0_c

/-- The environment of (*strings.Builder).WriteString: its loops so far. -/

noncomputable def strings_Builder_WriteString_U1_E0 : Env := EK1_2.fn 19 2 (lsOf []) (lpsOf [])

theorem strings_Builder_WriteString_U1_E0_ok : OrcOk Tryz.prog (ITryz.at 2) strings_Builder_WriteString_U1_E0 := EK1_2_ok.fn

theorem strings_Builder_WriteString_U1_E0_lk55 : LoOk Tryz.prog (ITryz.at strings_Builder_WriteString_U1_E0.pin) strings_Builder_WriteString_U1_E0 (Tryz.f55.body.getD .skip) := loOk_nil (by kernel_rfl)

/- 3 nodes -/
noncomputable def strings_Builder_WriteString_U1_t {T : Type} (s0 : List UInt8) (n : Nat) (xs : List AV) (δ : T) (κ : Int × Nat × List AV → T) : T := br (n == xs.length && (decide ((n + (byteAVs s0).length) * (1 : Nat) ≤ (140737488355328 : Nat)) && decide (n + (byteAVs s0).length ≤ (4611686018427387904 : Nat)))) (κ ((↑s0.length : Int), n + (byteAVs s0).length, xs ++ byteAVs s0)) (δ)
noncomputable def strings_Builder_WriteString_U1 (s0 : List UInt8) (n : Nat) (xs : List AV) : Option (Int × Nat × List AV) := strings_Builder_WriteString_U1_t s0 n xs none some
theorem strings_Builder_WriteString_U1_x (s0 : List UInt8) (n : Nat) (xs : List AV) : Enc (fun (p : Int × Nat × List AV) => (((AV.tuple [AV.int IntKind.i64 p.1, AV.top], ([⟨0, (2 : Nat), (74 : Nat), [AV.agg [AV.own 0 0 0 0, AV.osl 1 2 0 p.2.1]], false, false⟩, ⟨2, (1 : Nat), (5 : Nat), p.2.2, false, true⟩] : List Box))) : (AV × List Box))) (strings_Builder_WriteString_U1 s0 n xs) (XFM Tryz.prog strings_Builder_WriteString_U1_E0 Tryz.f55 (Tryz.f55.body.getD .skip) [AV.own (0 : Nat) (0 : Nat) (0 : Nat) (0 : Nat), AV.str s0] [{ ver := (0 : Nat), sz := (2 : Nat), ty := (74 : TypeId), xs := [AV.agg [AV.own (0 : Nat) (0 : Nat) (0 : Nat) (0 : Nat), AV.osl (1 : Nat) (1 : Nat) (0 : Nat) n]], frz := false, pm := false }, { ver := (1 : Nat), sz := (1 : Nat), ty := (5 : TypeId), xs := xs, frz := false, pm := true }]) := by
  have h : XFM Tryz.prog strings_Builder_WriteString_U1_E0 Tryz.f55 (Tryz.f55.body.getD .skip) [AV.own (0 : Nat) (0 : Nat) (0 : Nat) (0 : Nat), AV.str s0] [{ ver := (0 : Nat), sz := (2 : Nat), ty := (74 : TypeId), xs := [AV.agg [AV.own (0 : Nat) (0 : Nat) (0 : Nat) (0 : Nat), AV.osl (1 : Nat) (1 : Nat) (0 : Nat) n]], frz := false, pm := false }, { ver := (1 : Nat), sz := (1 : Nat), ty := (5 : TypeId), xs := xs, frz := false, pm := true }] = strings_Builder_WriteString_U1_t s0 n xs none (fun (p : Int × Nat × List AV) => some (((AV.tuple [AV.int IntKind.i64 p.1, AV.top], ([⟨0, (2 : Nat), (74 : Nat), [AV.agg [AV.own 0 0 0 0, AV.osl 1 2 0 p.2.1]], false, false⟩, ⟨2, (1 : Nat), (5 : Nat), p.2.2, false, true⟩] : List Box))) : (AV × List Box))) := by kernel_rfl
  rw [h]; unfold strings_Builder_WriteString_U1 strings_Builder_WriteString_U1_t; repeat' (first | exact Enc.none | exact Enc.some rfl | refine Enc.br ?_ ?_)
noncomputable def strings_Builder_WriteString_U1_o : List AV → List Box → Option (Bool × AV × List Box) := omOf (sCons (sEq (pOwn (0 : Nat) (0 : Nat) (0 : Nat) (0 : Nat))) (sCons (sEq pStr) sNil)) (pCons (pBox (0 : Nat) (2 : Nat) (74 : TypeId) false false (pCons (pAgg (pCons (pOwn (0 : Nat) (0 : Nat) (0 : Nat) (0 : Nat)) (pCons (pOsl (1 : Nat) (1 : Nat) (0 : Nat)) pNil))) pNil)) (pCons (pBox (1 : Nat) (1 : Nat) (5 : TypeId) false true pAny) pNil)) fun (_, (s0, _)) (((_, (n, _)), _), (xs, _)) => ((strings_Builder_WriteString_U1 s0 n xs).isSome, ((AV.tuple [AV.int IntKind.i64 ((strings_Builder_WriteString_U1 s0 n xs).getD (0, 0, [])).1, AV.top], ([⟨0, (2 : Nat), (74 : Nat), [AV.agg [AV.own 0 0 0 0, AV.osl 1 2 0 ((strings_Builder_WriteString_U1 s0 n xs).getD (0, 0, [])).2.1]], false, false⟩, ⟨2, (1 : Nat), (5 : Nat), ((strings_Builder_WriteString_U1 s0 n xs).getD (0, 0, [])).2.2, false, true⟩] : List Box))))
theorem strings_Builder_WriteString_U1_c : OmOk Tryz.prog ITryz 55 (strings_Builder_WriteString_U1_o) := omOk_of fun vv bb rr hh' hh => by
  obtain ⟨_, ⟨s0, _⟩⟩ := vv
  obtain ⟨⟨⟨_, ⟨n, _⟩⟩, _⟩, ⟨xs, _⟩⟩ := bb
  obtain ⟨hh1, hh2⟩ := Prod.mk.inj hh
  refine goodM_pin (p := strings_Builder_WriteString_U1_E0.pin) (goodM_XFM mxTryz (inv0Ok Tryz.prog _) rfl strings_Builder_WriteString_U1_E0_ok rfl Tryz.func55 rfl (by kernel_rfl) strings_Builder_WriteString_U1_E0_lk55 ((strings_Builder_WriteString_U1_x _ _ _ _ (getD_of_isSome (d := (0, 0, [])) hh1)).trans ?_))
  exact congrArg some hh2


noncomputable def EK1_3 : Env := EK1_2.withM 55 strings_Builder_WriteString_U1_o

theorem EK1_3_ok : OrcOk Tryz.prog ITryz EK1_3 := EK1_2_ok.withM strings_Builder_WriteString_U1_c

/-- The environment of (*strings.Builder).WriteByte: its loops so far. -/

noncomputable def strings_Builder_WriteByte_F_E0 : Env := EK1_3.fn 17 1 (lsOf []) (lpsOf [])

theorem strings_Builder_WriteByte_F_E0_ok : OrcOk Tryz.prog (ITryz.at 1) strings_Builder_WriteByte_F_E0 := EK1_3_ok.fn

theorem strings_Builder_WriteByte_F_E0_lk39 : LoOk Tryz.prog (ITryz.at strings_Builder_WriteByte_F_E0.pin) strings_Builder_WriteByte_F_E0 (Tryz.f39.body.getD .skip) := loOk_nil (by kernel_rfl)

/- 1 nodes -/
noncomputable def strings_Builder_WriteByte_F (c : Int) : Int := ((c))
noncomputable def strings_Builder_WriteByte_F_pre (c : Int) : Bool := true
noncomputable def strings_Builder_WriteByte_F_t {T : Type} (c : Int) (δ : T) (κ : Int → T) : T := κ (c)
theorem strings_Builder_WriteByte_F_x (c : Int) : Pre (strings_Builder_WriteByte_F_pre c) (XFM Tryz.prog strings_Builder_WriteByte_F_E0 Tryz.f39 (Tryz.f39.body.getD .skip) [AV.own (0 : Nat) (0 : Nat) (0 : Nat) (0 : Nat), AV.int IntKind.u8 c] [{ ver := (0 : Nat), sz := (2 : Nat), ty := (74 : TypeId), xs := [AV.agg [AV.nilptr, AV.nils]], frz := false, pm := true }]) ((AV.top, ([⟨0, (2 : Nat), (74 : Nat), [AV.agg [AV.own 0 0 0 0, AV.osl 1 0 0 1]], false, false⟩, ⟨0, (1 : Nat), (5 : Nat), [AV.int IntKind.u8 (strings_Builder_WriteByte_F c)], false, true⟩] : List Box))) := by
  have h : XFM Tryz.prog strings_Builder_WriteByte_F_E0 Tryz.f39 (Tryz.f39.body.getD .skip) [AV.own (0 : Nat) (0 : Nat) (0 : Nat) (0 : Nat), AV.int IntKind.u8 c] [{ ver := (0 : Nat), sz := (2 : Nat), ty := (74 : TypeId), xs := [AV.agg [AV.nilptr, AV.nils]], frz := false, pm := true }] = strings_Builder_WriteByte_F_t c none (fun (p : Int) => some (((AV.top, ([⟨0, (2 : Nat), (74 : Nat), [AV.agg [AV.own 0 0 0 0, AV.osl 1 0 0 1]], false, false⟩, ⟨0, (1 : Nat), (5 : Nat), [AV.int IntKind.u8 p], false, true⟩] : List Box))) : (AV × List Box))) := by kernel_rfl
  rw [h]; unfold strings_Builder_WriteByte_F strings_Builder_WriteByte_F_pre strings_Builder_WriteByte_F_t; repeat' (first | exact Pre.none | exact Pre.tt rfl | exact Pre.some rfl | refine Pre.l ?_ | refine Pre.r ?_ | refine Pre.br (f := fun (p : Int) => (((AV.top, ([⟨0, (2 : Nat), (74 : Nat), [AV.agg [AV.own 0 0 0 0, AV.osl 1 0 0 1]], false, false⟩, ⟨0, (1 : Nat), (5 : Nat), [AV.int IntKind.u8 p], false, true⟩] : List Box))) : (AV × List Box))) ?_ ?_ | refine Pre.brt (f := fun (p : Int) => (((AV.top, ([⟨0, (2 : Nat), (74 : Nat), [AV.agg [AV.own 0 0 0 0, AV.osl 1 0 0 1]], false, false⟩, ⟨0, (1 : Nat), (5 : Nat), [AV.int IntKind.u8 p], false, true⟩] : List Box))) : (AV × List Box))) ?_ ?_)
noncomputable def strings_Builder_WriteByte_F_o : List AV → List Box → Option (Bool × AV × List Box) := omOf (sCons (sEq (pOwn (0 : Nat) (0 : Nat) (0 : Nat) (0 : Nat))) (sCons (sEq (pInt IntKind.u8)) sNil)) (pCons (pBox (0 : Nat) (2 : Nat) (74 : TypeId) false true (pCons (pAgg (pCons pNilptr (pCons pNils pNil))) pNil)) pNil) fun (_, (c, _)) (((_, (_, _)), _), _) => (true, ((AV.top, ([⟨0, (2 : Nat), (74 : Nat), [AV.agg [AV.own 0 0 0 0, AV.osl 1 0 0 1]], false, false⟩, ⟨0, (1 : Nat), (5 : Nat), [AV.int IntKind.u8 (strings_Builder_WriteByte_F c)], false, true⟩] : List Box))))
theorem strings_Builder_WriteByte_F_c : OmOk Tryz.prog ITryz 39 (strings_Builder_WriteByte_F_o) := omOk_of fun vv bb rr hh' hh => by
  obtain ⟨_, ⟨c, _⟩⟩ := vv
  obtain ⟨⟨⟨_, ⟨_, _⟩⟩, _⟩, _⟩ := bb
  obtain ⟨hh1, hh2⟩ := Prod.mk.inj hh
  refine goodM_pin (p := strings_Builder_WriteByte_F_E0.pin) (goodM_XFM mxTryz (inv0Ok Tryz.prog _) rfl strings_Builder_WriteByte_F_E0_ok rfl Tryz.func39 rfl (by kernel_rfl) strings_Builder_WriteByte_F_E0_lk39 ((Pre.get (strings_Builder_WriteByte_F_x _) rfl).trans ?_))
  exact congrArg some hh2


noncomputable def EK1_4 : Env := EK1_3.withM 39 strings_Builder_WriteByte_F_o

theorem EK1_4_ok : OrcOk Tryz.prog ITryz EK1_4 := EK1_3_ok.withM strings_Builder_WriteByte_F_c

/-- The environment of (*strings.Builder).WriteByte: its loops so far. -/

noncomputable def strings_Builder_WriteByte_U0_E0 : Env := EK1_4.fn 17 2 (lsOf []) (lpsOf [])

theorem strings_Builder_WriteByte_U0_E0_ok : OrcOk Tryz.prog (ITryz.at 2) strings_Builder_WriteByte_U0_E0 := EK1_4_ok.fn

theorem strings_Builder_WriteByte_U0_E0_lk39 : LoOk Tryz.prog (ITryz.at strings_Builder_WriteByte_U0_E0.pin) strings_Builder_WriteByte_U0_E0 (Tryz.f39.body.getD .skip) := loOk_nil (by kernel_rfl)

/- 3 nodes -/
noncomputable def strings_Builder_WriteByte_U0_t {T : Type} (c : Int) (n : Nat) (xs : List AV) (δ : T) (κ : Nat × List AV → T) : T := br (n == xs.length && (decide ((n + (1 : Nat)) * (1 : Nat) ≤ (140737488355328 : Nat)) && decide (n + (1 : Nat) ≤ (4611686018427387904 : Nat)))) (κ (n + (1 : Nat), xs ++ [AV.int IntKind.u8 c])) (δ)
noncomputable def strings_Builder_WriteByte_U0 (c : Int) (n : Nat) (xs : List AV) : Option (Nat × List AV) := strings_Builder_WriteByte_U0_t c n xs none some
theorem strings_Builder_WriteByte_U0_x (c : Int) (n : Nat) (xs : List AV) : Enc (fun (p : Nat × List AV) => (((AV.top, ([⟨0, (2 : Nat), (74 : Nat), [AV.agg [AV.own 0 0 0 0, AV.osl 1 1 0 p.1]], false, false⟩, ⟨1, (1 : Nat), (5 : Nat), p.2, false, true⟩] : List Box))) : (AV × List Box))) (strings_Builder_WriteByte_U0 c n xs) (XFM Tryz.prog strings_Builder_WriteByte_U0_E0 Tryz.f39 (Tryz.f39.body.getD .skip) [AV.own (0 : Nat) (0 : Nat) (0 : Nat) (0 : Nat), AV.int IntKind.u8 c] [{ ver := (0 : Nat), sz := (2 : Nat), ty := (74 : TypeId), xs := [AV.agg [AV.own (0 : Nat) (0 : Nat) (0 : Nat) (0 : Nat), AV.osl (1 : Nat) (0 : Nat) (0 : Nat) n]], frz := false, pm := false }, { ver := (0 : Nat), sz := (1 : Nat), ty := (5 : TypeId), xs := xs, frz := false, pm := true }]) := by
  have h : XFM Tryz.prog strings_Builder_WriteByte_U0_E0 Tryz.f39 (Tryz.f39.body.getD .skip) [AV.own (0 : Nat) (0 : Nat) (0 : Nat) (0 : Nat), AV.int IntKind.u8 c] [{ ver := (0 : Nat), sz := (2 : Nat), ty := (74 : TypeId), xs := [AV.agg [AV.own (0 : Nat) (0 : Nat) (0 : Nat) (0 : Nat), AV.osl (1 : Nat) (0 : Nat) (0 : Nat) n]], frz := false, pm := false }, { ver := (0 : Nat), sz := (1 : Nat), ty := (5 : TypeId), xs := xs, frz := false, pm := true }] = strings_Builder_WriteByte_U0_t c n xs none (fun (p : Nat × List AV) => some (((AV.top, ([⟨0, (2 : Nat), (74 : Nat), [AV.agg [AV.own 0 0 0 0, AV.osl 1 1 0 p.1]], false, false⟩, ⟨1, (1 : Nat), (5 : Nat), p.2, false, true⟩] : List Box))) : (AV × List Box))) := by kernel_rfl
  rw [h]; unfold strings_Builder_WriteByte_U0 strings_Builder_WriteByte_U0_t; repeat' (first | exact Enc.none | exact Enc.some rfl | refine Enc.br ?_ ?_)
noncomputable def strings_Builder_WriteByte_U0_o : List AV → List Box → Option (Bool × AV × List Box) := omOf (sCons (sEq (pOwn (0 : Nat) (0 : Nat) (0 : Nat) (0 : Nat))) (sCons (sEq (pInt IntKind.u8)) sNil)) (pCons (pBox (0 : Nat) (2 : Nat) (74 : TypeId) false false (pCons (pAgg (pCons (pOwn (0 : Nat) (0 : Nat) (0 : Nat) (0 : Nat)) (pCons (pOsl (1 : Nat) (0 : Nat) (0 : Nat)) pNil))) pNil)) (pCons (pBox (0 : Nat) (1 : Nat) (5 : TypeId) false true pAny) pNil)) fun (_, (c, _)) (((_, (n, _)), _), (xs, _)) => ((strings_Builder_WriteByte_U0 c n xs).isSome, ((AV.top, ([⟨0, (2 : Nat), (74 : Nat), [AV.agg [AV.own 0 0 0 0, AV.osl 1 1 0 ((strings_Builder_WriteByte_U0 c n xs).getD (0, [])).1]], false, false⟩, ⟨1, (1 : Nat), (5 : Nat), ((strings_Builder_WriteByte_U0 c n xs).getD (0, [])).2, false, true⟩] : List Box))))
theorem strings_Builder_WriteByte_U0_c : OmOk Tryz.prog ITryz 39 (strings_Builder_WriteByte_U0_o) := omOk_of fun vv bb rr hh' hh => by
  obtain ⟨_, ⟨c, _⟩⟩ := vv
  obtain ⟨⟨⟨_, ⟨n, _⟩⟩, _⟩, ⟨xs, _⟩⟩ := bb
  obtain ⟨hh1, hh2⟩ := Prod.mk.inj hh
  refine goodM_pin (p := strings_Builder_WriteByte_U0_E0.pin) (goodM_XFM mxTryz (inv0Ok Tryz.prog _) rfl strings_Builder_WriteByte_U0_E0_ok rfl Tryz.func39 rfl (by kernel_rfl) strings_Builder_WriteByte_U0_E0_lk39 ((strings_Builder_WriteByte_U0_x _ _ _ _ (getD_of_isSome (d := (0, [])) hh1)).trans ?_))
  exact congrArg some hh2


noncomputable def EK1_5 : Env := EK1_4.withM 39 strings_Builder_WriteByte_U0_o

theorem EK1_5_ok : OrcOk Tryz.prog ITryz EK1_5 := EK1_4_ok.withM strings_Builder_WriteByte_U0_c

/-- The environment of (*strings.Builder).WriteByte: its loops so far. -/

noncomputable def strings_Builder_WriteByte_U1_E0 : Env := EK1_5.fn 17 2 (lsOf []) (lpsOf [])

theorem strings_Builder_WriteByte_U1_E0_ok : OrcOk Tryz.prog (ITryz.at 2) strings_Builder_WriteByte_U1_E0 := EK1_5_ok.fn

theorem strings_Builder_WriteByte_U1_E0_lk39 : LoOk Tryz.prog (ITryz.at strings_Builder_WriteByte_U1_E0.pin) strings_Builder_WriteByte_U1_E0 (Tryz.f39.body.getD .skip) := loOk_nil (by kernel_rfl)

/- 3 nodes -/
noncomputable def strings_Builder_WriteByte_U1_t {T : Type} (c : Int) (n : Nat) (xs : List AV) (δ : T) (κ : Nat × List AV → T) : T := br (n == xs.length && (decide ((n + (1 : Nat)) * (1 : Nat) ≤ (140737488355328 : Nat)) && decide (n + (1 : Nat) ≤ (4611686018427387904 : Nat)))) (κ (n + (1 : Nat), xs ++ [AV.int IntKind.u8 c])) (δ)
noncomputable def strings_Builder_WriteByte_U1 (c : Int) (n : Nat) (xs : List AV) : Option (Nat × List AV) := strings_Builder_WriteByte_U1_t c n xs none some
theorem strings_Builder_WriteByte_U1_x (c : Int) (n : Nat) (xs : List AV) : Enc (fun (p : Nat × List AV) => (((AV.top, ([⟨0, (2 : Nat), (74 : Nat), [AV.agg [AV.own 0 0 0 0, AV.osl 1 2 0 p.1]], false, false⟩, ⟨2, (1 : Nat), (5 : Nat), p.2, false, true⟩] : List Box))) : (AV × List Box))) (strings_Builder_WriteByte_U1 c n xs) (XFM Tryz.prog strings_Builder_WriteByte_U1_E0 Tryz.f39 (Tryz.f39.body.getD .skip) [AV.own (0 : Nat) (0 : Nat) (0 : Nat) (0 : Nat), AV.int IntKind.u8 c] [{ ver := (0 : Nat), sz := (2 : Nat), ty := (74 : TypeId), xs := [AV.agg [AV.own (0 : Nat) (0 : Nat) (0 : Nat) (0 : Nat), AV.osl (1 : Nat) (1 : Nat) (0 : Nat) n]], frz := false, pm := false }, { ver := (1 : Nat), sz := (1 : Nat), ty := (5 : TypeId), xs := xs, frz := false, pm := true }]) := by
  have h : XFM Tryz.prog strings_Builder_WriteByte_U1_E0 Tryz.f39 (Tryz.f39.body.getD .skip) [AV.own (0 : Nat) (0 : Nat) (0 : Nat) (0 : Nat), AV.int IntKind.u8 c] [{ ver := (0 : Nat), sz := (2 : Nat), ty := (74 : TypeId), xs := [AV.agg [AV.own (0 : Nat) (0 : Nat) (0 : Nat) (0 : Nat), AV.osl (1 : Nat) (1 : Nat) (0 : Nat) n]], frz := false, pm := false }, { ver := (1 : Nat), sz := (1 : Nat), ty := (5 : TypeId), xs := xs, frz := false, pm := true }] = strings_Builder_WriteByte_U1_t c n xs none (fun (p : Nat × List AV) => some (((AV.top, ([⟨0, (2 : Nat), (74 : Nat), [AV.agg [AV.own 0 0 0 0, AV.osl 1 2 0 p.1]], false, false⟩, ⟨2, (1 : Nat), (5 : Nat), p.2, false, true⟩] : List Box))) : (AV × List Box))) := by kernel_rfl
  rw [h]; unfold strings_Builder_WriteByte_U1 strings_Builder_WriteByte_U1_t; repeat' (first | exact Enc.none | exact Enc.some rfl | refine Enc.br ?_ ?_)
noncomputable def strings_Builder_WriteByte_U1_o : List AV → List Box → Option (Bool × AV × List Box) := omOf (sCons (sEq (pOwn (0 : Nat) (0 : Nat) (0 : Nat) (0 : Nat))) (sCons (sEq (pInt IntKind.u8)) sNil)) (pCons (pBox (0 : Nat) (2 : Nat) (74 : TypeId) false false (pCons (pAgg (pCons (pOwn (0 : Nat) (0 : Nat) (0 : Nat) (0 : Nat)) (pCons (pOsl (1 : Nat) (1 : Nat) (0 : Nat)) pNil))) pNil)) (pCons (pBox (1 : Nat) (1 : Nat) (5 : TypeId) false true pAny) pNil)) fun (_, (c, _)) (((_, (n, _)), _), (xs, _)) => ((strings_Builder_WriteByte_U1 c n xs).isSome, ((AV.top, ([⟨0, (2 : Nat), (74 : Nat), [AV.agg [AV.own 0 0 0 0, AV.osl 1 2 0 ((strings_Builder_WriteByte_U1 c n xs).getD (0, [])).1]], false, false⟩, ⟨2, (1 : Nat), (5 : Nat), ((strings_Builder_WriteByte_U1 c n xs).getD (0, [])).2, false, true⟩] : List Box))))
theorem strings_Builder_WriteByte_U1_c : OmOk Tryz.prog ITryz 39 (strings_Builder_WriteByte_U1_o) := omOk_of fun vv bb rr hh' hh => by
  obtain ⟨_, ⟨c, _⟩⟩ := vv
  obtain ⟨⟨⟨_, ⟨n, _⟩⟩, _⟩, ⟨xs, _⟩⟩ := bb
  obtain ⟨hh1, hh2⟩ := Prod.mk.inj hh
  refine goodM_pin (p := strings_Builder_WriteByte_U1_E0.pin) (goodM_XFM mxTryz (inv0Ok Tryz.prog _) rfl strings_Builder_WriteByte_U1_E0_ok rfl Tryz.func39 rfl (by kernel_rfl) strings_Builder_WriteByte_U1_E0_lk39 ((strings_Builder_WriteByte_U1_x _ _ _ _ (getD_of_isSome (d := (0, [])) hh1)).trans ?_))
  exact congrArg some hh2


noncomputable def EK1_6 : Env := EK1_5.withM 39 strings_Builder_WriteByte_U1_o

theorem EK1_6_ok : OrcOk Tryz.prog ITryz EK1_6 := EK1_5_ok.withM strings_Builder_WriteByte_U1_c

noncomputable abbrev EK1 : Env := EK1_6

theorem EK1_ok : OrcOk Tryz.prog ITryz EK1 := EK1_6_ok

end Go.Sim.M
