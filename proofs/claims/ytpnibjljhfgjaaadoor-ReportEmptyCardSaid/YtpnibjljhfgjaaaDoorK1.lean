/- Functions of the program as the executor found them: printed by program, checked by the kernel. -/
import Derived.Test.YtpnibjljhfgjaaaDoorLibR0
set_option linter.unusedVariables false
set_option linter.unusedSimpArgs false
set_option maxRecDepth 100000
namespace Go.Sim.M
open Go.RowKit Go.Proofs

/-- The environment of (*strings.Builder).WriteString: its loops so far. -/

noncomputable def strings_Builder_WriteString_F_E0 : Env := E0.fn 19 1 (lsOf []) (lpsOf [])

theorem strings_Builder_WriteString_F_E0_ok : OrcOk Tryd.prog (ITryd.at 1) strings_Builder_WriteString_F_E0 := E0_ok.fn

theorem strings_Builder_WriteString_F_E0_lk39 : LoOk Tryd.prog (ITryd.at strings_Builder_WriteString_F_E0.pin) strings_Builder_WriteString_F_E0 (Tryd.f39.body.getD .skip) := loOk_nil (by kernel_rfl)

/- 3 nodes -/
noncomputable def strings_Builder_WriteString_F_t {T : Type} (s0 : List UInt8) (δ : T) (κ : Int × Nat × List AV → T) : T := br (decide ((byteAVs s0).length * (1 : Nat) ≤ (140737488355328 : Nat)) && decide ((byteAVs s0).length ≤ (4611686018427387904 : Nat))) (κ ((↑s0.length : Int), (byteAVs s0).length, byteAVs s0)) (δ)
noncomputable def strings_Builder_WriteString_F (s0 : List UInt8) : Option (Int × Nat × List AV) := strings_Builder_WriteString_F_t s0 none some
theorem strings_Builder_WriteString_F_x (s0 : List UInt8) : Enc (fun (p : Int × Nat × List AV) => (((AV.tuple [AV.int IntKind.i64 p.1, AV.top], ([⟨0, (2 : Nat), (50 : Nat), [AV.agg [AV.own 0 0 0 0, AV.osl 1 0 0 p.2.1]], false, false⟩, ⟨0, (1 : Nat), (5 : Nat), p.2.2, false, true⟩] : List Box))) : (AV × List Box))) (strings_Builder_WriteString_F s0) (XFM Tryd.prog strings_Builder_WriteString_F_E0 Tryd.f39 (Tryd.f39.body.getD .skip) [AV.own (0 : Nat) (0 : Nat) (0 : Nat) (0 : Nat), AV.str s0] [{ ver := (0 : Nat), sz := (2 : Nat), ty := (50 : TypeId), xs := [AV.agg [AV.nilptr, AV.nils]], frz := false, pm := true }]) := by
  have h : XFM Tryd.prog strings_Builder_WriteString_F_E0 Tryd.f39 (Tryd.f39.body.getD .skip) [AV.own (0 : Nat) (0 : Nat) (0 : Nat) (0 : Nat), AV.str s0] [{ ver := (0 : Nat), sz := (2 : Nat), ty := (50 : TypeId), xs := [AV.agg [AV.nilptr, AV.nils]], frz := false, pm := true }] = strings_Builder_WriteString_F_t s0 none (fun (p : Int × Nat × List AV) => some (((AV.tuple [AV.int IntKind.i64 p.1, AV.top], ([⟨0, (2 : Nat), (50 : Nat), [AV.agg [AV.own 0 0 0 0, AV.osl 1 0 0 p.2.1]], false, false⟩, ⟨0, (1 : Nat), (5 : Nat), p.2.2, false, true⟩] : List Box))) : (AV × List Box))) := by kernel_rfl
  rw [h]; unfold strings_Builder_WriteString_F strings_Builder_WriteString_F_t; repeat' (first | exact Enc.none | exact Enc.some rfl | refine Enc.br ?_ ?_)
noncomputable def strings_Builder_WriteString_F_o : List AV → List Box → Option (Bool × AV × List Box) := omOf (sCons (sEq (pOwn (0 : Nat) (0 : Nat) (0 : Nat) (0 : Nat))) (sCons (sEq pStr) sNil)) (pCons (pBox (0 : Nat) (2 : Nat) (50 : TypeId) false true (pCons (pAgg (pCons pNilptr (pCons pNils pNil))) pNil)) pNil) fun (_, (s0, _)) (((_, (_, _)), _), _) => ((strings_Builder_WriteString_F s0).isSome, ((AV.tuple [AV.int IntKind.i64 ((strings_Builder_WriteString_F s0).getD (0, 0, [])).1, AV.top], ([⟨0, (2 : Nat), (50 : Nat), [AV.agg [AV.own 0 0 0 0, AV.osl 1 0 0 ((strings_Builder_WriteString_F s0).getD (0, 0, [])).2.1]], false, false⟩, ⟨0, (1 : Nat), (5 : Nat), ((strings_Builder_WriteString_F s0).getD (0, 0, [])).2.2, false, true⟩] : List Box))))
theorem strings_Builder_WriteString_F_c : OmOk Tryd.prog ITryd 39 (strings_Builder_WriteString_F_o) := omOk_of fun vv bb rr hh' hh => by
  obtain ⟨_, ⟨s0, _⟩⟩ := vv
  obtain ⟨⟨⟨_, ⟨_, _⟩⟩, _⟩, _⟩ := bb
  obtain ⟨hh1, hh2⟩ := Prod.mk.inj hh
  refine goodM_pin (p := strings_Builder_WriteString_F_E0.pin) (goodM_XFM mxTryd (inv0Ok Tryd.prog _) rfl strings_Builder_WriteString_F_E0_ok rfl Tryd.func39 rfl (by kernel_rfl) strings_Builder_WriteString_F_E0_lk39 ((strings_Builder_WriteString_F_x _ _ (getD_of_isSome (d := (0, 0, [])) hh1)).trans ?_))
  exact congrArg some hh2


noncomputable def EK1_1 : Env := E0.withM 39 strings_Builder_WriteString_F_o

theorem EK1_1_ok : OrcOk Tryd.prog ITryd EK1_1 := E0_ok.withM strings_Builder_WriteString_F_c

/-- The environment of (*strings.Builder).WriteString: its loops so far. -/

noncomputable def strings_Builder_WriteString_U0_E0 : Env := EK1_1.fn 19 2 (lsOf []) (lpsOf [])

theorem strings_Builder_WriteString_U0_E0_ok : OrcOk Tryd.prog (ITryd.at 2) strings_Builder_WriteString_U0_E0 := EK1_1_ok.fn

theorem strings_Builder_WriteString_U0_E0_lk39 : LoOk Tryd.prog (ITryd.at strings_Builder_WriteString_U0_E0.pin) strings_Builder_WriteString_U0_E0 (Tryd.f39.body.getD .skip) := loOk_nil (by kernel_rfl)

/- 3 nodes -/
noncomputable def strings_Builder_WriteString_U0_t {T : Type} (s0 : List UInt8) (n : Nat) (xs : List AV) (δ : T) (κ : Int × Nat × List AV → T) : T := br (n == xs.length && (decide ((n + (byteAVs s0).length) * (1 : Nat) ≤ (140737488355328 : Nat)) && decide (n + (byteAVs s0).length ≤ (4611686018427387904 : Nat)))) (κ ((↑s0.length : Int), n + (byteAVs s0).length, xs ++ byteAVs s0)) (δ)
noncomputable def strings_Builder_WriteString_U0 (s0 : List UInt8) (n : Nat) (xs : List AV) : Option (Int × Nat × List AV) := strings_Builder_WriteString_U0_t s0 n xs none some
theorem strings_Builder_WriteString_U0_x (s0 : List UInt8) (n : Nat) (xs : List AV) : Enc (fun (p : Int × Nat × List AV) => (((AV.tuple [AV.int IntKind.i64 p.1, AV.top], ([⟨0, (2 : Nat), (50 : Nat), [AV.agg [AV.own 0 0 0 0, AV.osl 1 1 0 p.2.1]], false, false⟩, ⟨1, (1 : Nat), (5 : Nat), p.2.2, false, true⟩] : List Box))) : (AV × List Box))) (strings_Builder_WriteString_U0 s0 n xs) (XFM Tryd.prog strings_Builder_WriteString_U0_E0 Tryd.f39 (Tryd.f39.body.getD .skip) [AV.own (0 : Nat) (0 : Nat) (0 : Nat) (0 : Nat), AV.str s0] [{ ver := (0 : Nat), sz := (2 : Nat), ty := (50 : TypeId), xs := [AV.agg [AV.own (0 : Nat) (0 : Nat) (0 : Nat) (0 : Nat), AV.osl (1 : Nat) (0 : Nat) (0 : Nat) n]], frz := false, pm := false }, { ver := (0 : Nat), sz := (1 : Nat), ty := (5 : TypeId), xs := xs, frz := false, pm := true }]) := by
  have h : XFM Tryd.prog strings_Builder_WriteString_U0_E0 Tryd.f39 (Tryd.f39.body.getD .skip) [AV.own (0 : Nat) (0 : Nat) (0 : Nat) (0 : Nat), AV.str s0] [{ ver := (0 : Nat), sz := (2 : Nat), ty := (50 : TypeId), xs := [AV.agg [AV.own (0 : Nat) (0 : Nat) (0 : Nat) (0 : Nat), AV.osl (1 : Nat) (0 : Nat) (0 : Nat) n]], frz := false, pm := false }, { ver := (0 : Nat), sz := (1 : Nat), ty := (5 : TypeId), xs := xs, frz := false, pm := true }] = strings_Builder_WriteString_U0_t s0 n xs none (fun (p : Int × Nat × List AV) => some (((AV.tuple [AV.int IntKind.i64 p.1, AV.top], ([⟨0, (2 : Nat), (50 : Nat), [AV.agg [AV.own 0 0 0 0, AV.osl 1 1 0 p.2.1]], false, false⟩, ⟨1, (1 : Nat), (5 : Nat), p.2.2, false, true⟩] : List Box))) : (AV × List Box))) := by kernel_rfl
  rw [h]; unfold strings_Builder_WriteString_U0 strings_Builder_WriteString_U0_t; repeat' (first | exact Enc.none | exact Enc.some rfl | refine Enc.br ?_ ?_)
noncomputable def strings_Builder_WriteString_U0_o : List AV → List Box → Option (Bool × AV × List Box) := omOf (sCons (sEq (pOwn (0 : Nat) (0 : Nat) (0 : Nat) (0 : Nat))) (sCons (sEq pStr) sNil)) (pCons (pBox (0 : Nat) (2 : Nat) (50 : TypeId) false false (pCons (pAgg (pCons (pOwn (0 : Nat) (0 : Nat) (0 : Nat) (0 : Nat)) (pCons (pOsl (1 : Nat) (0 : Nat) (0 : Nat)) pNil))) pNil)) (pCons (pBox (0 : Nat) (1 : Nat) (5 : TypeId) false true pAny) pNil)) fun (_, (s0, _)) (((_, (n, _)), _), (xs, _)) => ((strings_Builder_WriteString_U0 s0 n xs).isSome, ((AV.tuple [AV.int IntKind.i64 ((strings_Builder_WriteString_U0 s0 n xs).getD (0, 0, [])).1, AV.top], ([⟨0, (2 : Nat), (50 : Nat), [AV.agg [AV.own 0 0 0 0, AV.osl 1 1 0 ((strings_Builder_WriteString_U0 s0 n xs).getD (0, 0, [])).2.1]], false, false⟩, ⟨1, (1 : Nat), (5 : Nat), ((strings_Builder_WriteString_U0 s0 n xs).getD (0, 0, [])).2.2, false, true⟩] : List Box))))
theorem strings_Builder_WriteString_U0_c : OmOk Tryd.prog ITryd 39 (strings_Builder_WriteString_U0_o) := omOk_of fun vv bb rr hh' hh => by
  obtain ⟨_, ⟨s0, _⟩⟩ := vv
  obtain ⟨⟨⟨_, ⟨n, _⟩⟩, _⟩, ⟨xs, _⟩⟩ := bb
  obtain ⟨hh1, hh2⟩ := Prod.mk.inj hh
  refine goodM_pin (p := strings_Builder_WriteString_U0_E0.pin) (goodM_XFM mxTryd (inv0Ok Tryd.prog _) rfl strings_Builder_WriteString_U0_E0_ok rfl Tryd.func39 rfl (by kernel_rfl) strings_Builder_WriteString_U0_E0_lk39 ((strings_Builder_WriteString_U0_x _ _ _ _ (getD_of_isSome (d := (0, 0, [])) hh1)).trans ?_))
  exact congrArg some hh2


noncomputable def EK1_2 : Env := EK1_1.withM 39 strings_Builder_WriteString_U0_o

theorem EK1_2_ok : OrcOk Tryd.prog ITryd EK1_2 := EK1_1_ok.withM strings_Builder_WriteString_U0_c

noncomputable abbrev EK1 : Env := EK1_2

theorem EK1_ok : OrcOk Tryd.prog ITryd EK1 := EK1_2_ok

end Go.Sim.M
