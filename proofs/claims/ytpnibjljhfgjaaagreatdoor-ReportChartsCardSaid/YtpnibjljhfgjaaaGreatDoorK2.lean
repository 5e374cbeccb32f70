/- Functions of the program as the executor found them: printed by program, checked by the kernel. -/
import Derived.Test.YtpnibjljhfgjaaaGreatDoorK1
set_option linter.unusedVariables false
set_option linter.unusedSimpArgs false
set_option maxRecDepth 100000
namespace Go.Sim.M
open Go.RowKit Go.Proofs

/-- The environment of bitemporal/value.printable: its loops so far. -/

noncomputable def value_printable_E0 : Env := EK1.fn 20 0 (lsOf []) (lpsOf [])

theorem value_printable_E0_ok : OrcOk Tryz.prog (ITryz.at 0) value_printable_E0 := EK1_ok.fn

theorem value_printable_E0_lk89_0 : LoOk Tryz.prog (ITryz.at value_printable_E0.pin) value_printable_E0 (loopAt Tryz.f89 0) := loOk_nil (by kernel_rfl)

/- 11 nodes -/
noncomputable def value_printable_l0_t {T : Type} (s0 : List UInt8) (t5 : Int) (t6 : Int) (δ : T) (κl : (Int) → T) (κr : (Bool × (Bool) × (Unit)) → T) : T := br (decide (t6 < t5)) (br (decide ((0 : Int) ≤ t6) && decide (t6 < (↑s0.length : Int))) (br (decide ((↑(s0.getD t6.toNat (0 : UInt8)).toNat : Int) < (32 : Int))) (κr (true, (false), ())) (br (decide ((0 : Int) ≤ t6) && decide (t6 < (↑s0.length : Int))) (br (decide ((↑(s0.getD t6.toNat (0 : UInt8)).toNat : Int) > (126 : Int))) (κr (true, (false), ())) (κl (IntKind.i64.wrap (t6 + (1 : Int))))) (δ))) (δ)) (κr (false, false, ()))
noncomputable def value_printable_l0_step (s0 : List UInt8) (t5 : Int) : (Int) → Option ((Int) ⊕ (Bool × (Bool) × (Unit))) := fun (t6) => value_printable_l0_t s0 t5 t6 none (fun s => some (.inl s)) (fun p => some (.inr p))
noncomputable def value_printable_l0_L (s0 : List UInt8) (t5 : Int) : (Int) → List AV × List Box := fun (t6) => ([AV.str s0, AV.int IntKind.i64 t5, AV.int IntKind.i64 t6], [])
noncomputable def value_printable_l0_out (s0 : List UInt8) (t5 : Int) : (Bool × (Bool) × (Unit)) → LR := fun p => (.node p.1 (.leaf (Exit.ret) [AV.bool p.2.1] []) (.leaf (Exit.exit (0 : Nat)) [AV.top] []))
noncomputable abbrev value_printable_l0_X (vals : List AV) (H : List Box) := XR Tryz.prog value_printable_E0 [0, 5, 6] [2] [] (loopAt Tryz.f89 0) vals H
theorem value_printable_l0_r (s0 : List UInt8) (t5 : Int) (t6 : Int) : Enc (encR (value_printable_l0_L s0 t5) (value_printable_l0_out s0 t5)) (value_printable_l0_step s0 t5 t6) (value_printable_l0_X (value_printable_l0_L s0 t5 t6).1 (value_printable_l0_L s0 t5 t6).2) := by
  have h : value_printable_l0_X (value_printable_l0_L s0 t5 t6).1 (value_printable_l0_L s0 t5 t6).2 = value_printable_l0_t s0 t5 t6 none (fun s => some (encR (value_printable_l0_L s0 t5) (value_printable_l0_out s0 t5) (.inl s))) (fun p => some (encR (value_printable_l0_L s0 t5) (value_printable_l0_out s0 t5) (.inr p))) := by kernel_rfl
  rw [h]; unfold value_printable_l0_step value_printable_l0_t; repeat' (first | exact Enc.none | exact Enc.some rfl | refine Enc.br ?_ ?_)
noncomputable def value_printable_l0_lp : Lp := lpOf [0, 5, 6] [2] [] (pCons pStr (pCons (pInt IntKind.i64) (pCons (pInt IntKind.i64) pNil))) pNil fun (s0, (t5, (t6, _))) _ => ((Iter (value_printable_l0_step s0 t5) (t6)).isSome, value_printable_l0_out s0 t5 ((Iter (value_printable_l0_step s0 t5) (t6)).getD (false, false, ())))
theorem value_printable_l0_lok : LoopOk Tryz.prog (ITryz.at value_printable_E0.pin) value_printable_E0.nt (loopAt Tryz.f89 0) value_printable_l0_lp := lok_of fun vv bb rr hh => by
  obtain ⟨s0, ⟨t5, ⟨t6, _⟩⟩⟩ := vv
  obtain ⟨hh1, rfl⟩ := Prod.mk.inj hh
  exact loop_of_XR mxTryz (inv0Ok Tryz.prog _) rfl value_printable_E0_ok value_printable_E0_lk89_0 (value_printable_l0_L s0 t5) (value_printable_l0_out s0 t5) (fun p => by simp only [value_printable_l0_out, LR.eval]; first | (simp; done) | (repeat' split <;> simp)) (value_printable_l0_r s0 t5) (s := (t6)) (getD_of_isSome hh1)


/-- The environment of bitemporal/value.printable: its loops so far. -/

noncomputable def value_printable_E1 : Env := EK1.fn 20 0 (lsOf []) (lpsOf [(2, value_printable_l0_lp)])

theorem value_printable_E1_ok : OrcOk Tryz.prog (ITryz.at 0) value_printable_E1 := EK1_ok.fn

theorem value_printable_E1_lk89 : LoOk Tryz.prog (ITryz.at value_printable_E1.pin) value_printable_E1 (Tryz.f89.body.getD .skip) := loOk_all (ls := [loopAt Tryz.f89 0]) (by kernel_rfl) (fun l hl lp hs => by
  simp only [List.mem_cons, List.not_mem_nil, or_false] at hl
  rcases hl with rfl
  · rw [show value_printable_E1.lp (codeId (loopAt Tryz.f89 0)) = some value_printable_l0_lp by kernel_rfl] at hs
    simp only [Option.some.injEq] at hs; subst hs; exact value_printable_l0_lok)

/- 5 nodes -/
noncomputable def value_printable_t {T : Type} (s0 : List UInt8) (δ : T) (κ : Bool → T) : T := br ((Iter (value_printable_l0_step s0 (↑s0.length : Int)) (0 : Int)).isSome) (br (((Iter (value_printable_l0_step s0 (↑s0.length : Int)) (0 : Int)).getD (false, false, ())).fst) (κ (((Iter (value_printable_l0_step s0 (↑s0.length : Int)) (0 : Int)).getD (false, false, ())).snd.fst)) (κ (true))) (δ)
noncomputable def value_printable (s0 : List UInt8) : Option (Bool) := value_printable_t s0 none some
theorem value_printable_x (s0 : List UInt8) : Enc (fun (p : Bool) => ((AV.bool p) : AV)) (value_printable s0) (XF Tryz.prog value_printable_E1 Tryz.f89 (Tryz.f89.body.getD .skip) [AV.str s0]) := by
  have h : XF Tryz.prog value_printable_E1 Tryz.f89 (Tryz.f89.body.getD .skip) [AV.str s0] = value_printable_t s0 none (fun (p : Bool) => some ((AV.bool p) : AV)) := by kernel_rfl
  rw [h]; unfold value_printable value_printable_t; repeat' (first | exact Enc.none | exact Enc.some rfl | refine Enc.br ?_ ?_)
noncomputable def value_printable_o : List AV → Option (Bool × AV) := ocOf (sCons (sEq pStr) sNil) fun (s0, _) => ((value_printable s0).isSome, (AV.bool ((value_printable s0).getD false)))
theorem value_printable_c : OcOk Tryz.prog ITryz 89 (value_printable_o) := ocOk_of fun vv rr hh => by
  obtain ⟨s0, _⟩ := vv
  obtain ⟨hh1, hh2⟩ := Prod.mk.inj hh
  refine good_pin (p := value_printable_E1.pin) (good_XF mxTryz (inv0Ok Tryz.prog _) rfl value_printable_E1_ok Tryz.func89 rfl (by kernel_rfl) value_printable_E1_lk89 ((value_printable_x _ _ (getD_of_isSome (d := false) hh1)).trans ?_))
  exact congrArg some hh2


noncomputable def EK2_1 : Env := EK1.with 89 value_printable_o

theorem EK2_1_ok : OrcOk Tryz.prog ITryz EK2_1 := EK1_ok.with value_printable_c

/-- The environment of bitemporal/value.Valid: its loops so far. -/

noncomputable def value_Valid_E0 : Env := EK2_1.fn 61 0 (lsOf []) (lpsOf [])

theorem value_Valid_E0_ok : OrcOk Tryz.prog (ITryz.at 0) value_Valid_E0 := EK2_1_ok.fn

theorem value_Valid_E0_lk72 : LoOk Tryz.prog (ITryz.at value_Valid_E0.pin) value_Valid_E0 (Tryz.f72.body.getD .skip) := loOk_nil (by kernel_rfl)

/- 25 nodes -/
noncomputable def value_Valid_t {T : Type} (v_k : Int) (v_i : Int) (v_t : List UInt8) (δ : T) (κ : Bool → T) : T := br (v_k == (0 : Int)) (br (v_i == (0 : Int)) (κ (v_t == [])) (κ (false))) (br (v_k == (1 : Int)) (br (v_t == []) (br (decide (v_i ≥ (-1125899906842624 : Int))) (κ (decide (v_i ≤ (1125899906842624 : Int)))) (κ (false))) (κ (false))) (br (v_k == (2 : Int)) (br (v_i == (0 : Int)) (br (decide ((↑v_t.length : Int) ≤ (200 : Int))) (br ((value_printable v_t).isSome) (κ ((value_printable v_t).getD false)) (δ)) (κ (false))) (κ (false))) (br (v_k == (3 : Int)) (br (v_t == []) (br (v_i == (0 : Int)) (κ (true)) (κ (v_i == (1 : Int)))) (κ (false))) (κ (false)))))
noncomputable def value_Valid (v_k : Int) (v_i : Int) (v_t : List UInt8) : Option (Bool) := value_Valid_t v_k v_i v_t none some
theorem value_Valid_x (v_k : Int) (v_i : Int) (v_t : List UInt8) : Enc (fun (p : Bool) => ((AV.bool p) : AV)) (value_Valid v_k v_i v_t) (XF Tryz.prog value_Valid_E0 Tryz.f72 (Tryz.f72.body.getD .skip) [AV.agg [AV.int IntKind.i64 v_k, AV.int IntKind.i64 v_i, AV.str v_t]]) := by
  have h : XF Tryz.prog value_Valid_E0 Tryz.f72 (Tryz.f72.body.getD .skip) [AV.agg [AV.int IntKind.i64 v_k, AV.int IntKind.i64 v_i, AV.str v_t]] = value_Valid_t v_k v_i v_t none (fun (p : Bool) => some ((AV.bool p) : AV)) := by kernel_rfl
  rw [h]; unfold value_Valid value_Valid_t; repeat' (first | exact Enc.none | exact Enc.some rfl | refine Enc.br ?_ ?_)
noncomputable def value_Valid_o : List AV → Option (Bool × AV) := ocOf (sCons (sAgg (sCons (sEq (pInt IntKind.i64)) (sCons (sEq (pInt IntKind.i64)) (sCons (sEq pStr) sNil)))) sNil) fun ((v_k, (v_i, (v_t, _))), _) => ((value_Valid v_k v_i v_t).isSome, (AV.bool ((value_Valid v_k v_i v_t).getD false)))
theorem value_Valid_c : OcOk Tryz.prog ITryz 72 (value_Valid_o) := ocOk_of fun vv rr hh => by
  obtain ⟨⟨v_k, ⟨v_i, ⟨v_t, _⟩⟩⟩, _⟩ := vv
  obtain ⟨hh1, hh2⟩ := Prod.mk.inj hh
  refine good_pin (p := value_Valid_E0.pin) (good_XF mxTryz (inv0Ok Tryz.prog _) rfl value_Valid_E0_ok Tryz.func72 rfl (by kernel_rfl) value_Valid_E0_lk72 ((value_Valid_x _ _ _ _ (getD_of_isSome (d := false) hh1)).trans ?_))
  exact congrArg some hh2


noncomputable def EK2_2 : Env := EK2_1.with 72 value_Valid_o

theorem EK2_2_ok : OrcOk Tryz.prog ITryz EK2_2 := EK2_1_ok.with value_Valid_c

/-- The environment of bitemporal/value.Literal: its loops so far. -/

noncomputable def value_Literal_E0 : Env := EK2_2.fn 25 0 (lsOf []) (lpsOf [])

theorem value_Literal_E0_ok : OrcOk Tryz.prog (ITryz.at 0) value_Literal_E0 := EK2_2_ok.fn

theorem value_Literal_E0_lk52 : LoOk Tryz.prog (ITryz.at value_Literal_E0.pin) value_Literal_E0 (Tryz.f52.body.getD .skip) := loOk_nil (by kernel_rfl)

/- 21 nodes -/
noncomputable def value_Literal_v0 (v_t : List UInt8) : List UInt8 := [(39 : UInt8)] ++ Lib.replaceAll v_t [(39 : UInt8)] [(39 : UInt8), (39 : UInt8)]
noncomputable def value_Literal_t {T : Type} (v_k : Int) (v_i : Int) (v_t : List UInt8) (δ : T) (κ : List UInt8 → T) : T := br ((value_Valid v_k v_i v_t).isSome) (br (!(value_Valid v_k v_i v_t).getD false) (κ ([])) (br (v_k == (1 : Int)) (br (decide ((-9223372036854775808 : Int) ≤ v_i) && decide (v_i ≤ (9223372036854775807 : Int))) (κ (Lib.itoa v_i)) (δ)) (br (v_k == (2 : Int)) (br (decide (v_t.length < (4294967281 : Nat)) && decide (v_t.length + Lib.count v_t [(39 : UInt8)] * (2 : Nat) ≤ (140737488355328 : Nat))) (br (decide ((1 : Nat) + (Lib.replaceAll v_t [(39 : UInt8)] [(39 : UInt8), (39 : UInt8)]).length ≤ (4611686018427387904 : Nat))) (br (decide ((value_Literal_v0 v_t).length + (1 : Nat) ≤ (4611686018427387904 : Nat))) (κ (value_Literal_v0 v_t ++ [(39 : UInt8)])) (δ)) (δ)) (δ)) (br (v_k == (3 : Int)) (br (v_i == (1 : Int)) (κ ([(84 : UInt8), (82 : UInt8), (85 : UInt8), (69 : UInt8)])) (κ ([(70 : UInt8), (65 : UInt8), (76 : UInt8), (83 : UInt8), (69 : UInt8)]))) (κ ([(78 : UInt8), (85 : UInt8), (76 : UInt8), (76 : UInt8)])))))) (δ)
noncomputable def value_Literal (v_k : Int) (v_i : Int) (v_t : List UInt8) : Option (List UInt8) := value_Literal_t v_k v_i v_t none some
theorem value_Literal_x (v_k : Int) (v_i : Int) (v_t : List UInt8) : Enc (fun (p : List UInt8) => ((AV.str p) : AV)) (value_Literal v_k v_i v_t) (XF Tryz.prog value_Literal_E0 Tryz.f52 (Tryz.f52.body.getD .skip) [AV.agg [AV.int IntKind.i64 v_k, AV.int IntKind.i64 v_i, AV.str v_t]]) := by
  have h : XF Tryz.prog value_Literal_E0 Tryz.f52 (Tryz.f52.body.getD .skip) [AV.agg [AV.int IntKind.i64 v_k, AV.int IntKind.i64 v_i, AV.str v_t]] = value_Literal_t v_k v_i v_t none (fun (p : List UInt8) => some ((AV.str p) : AV)) := by kernel_rfl
  rw [h]; unfold value_Literal value_Literal_t; repeat' (first | exact Enc.none | exact Enc.some rfl | refine Enc.br ?_ ?_)
noncomputable def value_Literal_o : List AV → Option (Bool × AV) := ocOf (sCons (sAgg (sCons (sEq (pInt IntKind.i64)) (sCons (sEq (pInt IntKind.i64)) (sCons (sEq pStr) sNil)))) sNil) fun ((v_k, (v_i, (v_t, _))), _) => ((value_Literal v_k v_i v_t).isSome, (AV.str ((value_Literal v_k v_i v_t).getD [])))
theorem value_Literal_c : OcOk Tryz.prog ITryz 52 (value_Literal_o) := ocOk_of fun vv rr hh => by
  obtain ⟨⟨v_k, ⟨v_i, ⟨v_t, _⟩⟩⟩, _⟩ := vv
  obtain ⟨hh1, hh2⟩ := Prod.mk.inj hh
  refine good_pin (p := value_Literal_E0.pin) (good_XF mxTryz (inv0Ok Tryz.prog _) rfl value_Literal_E0_ok Tryz.func52 rfl (by kernel_rfl) value_Literal_E0_lk52 ((value_Literal_x _ _ _ _ (getD_of_isSome (d := []) hh1)).trans ?_))
  exact congrArg some hh2


noncomputable def EK2_3 : Env := EK2_2.with 52 value_Literal_o

theorem EK2_3_ok : OrcOk Tryz.prog ITryz EK2_3 := EK2_2_ok.with value_Literal_c

/-- The environment of bitemporal/tuple.Text: its loops so far. -/

noncomputable def tuple_Text_E0 : Env := EK2_3.fn 22 0 (lsOf []) (lpsOf [])

theorem tuple_Text_E0_ok : OrcOk Tryz.prog (ITryz.at 0) tuple_Text_E0 := EK2_3_ok.fn

theorem tuple_Text_E0_lk44_0 : LoOk Tryz.prog (ITryz.at tuple_Text_E0.pin) tuple_Text_E0 (loopAt Tryz.f44 0) := loOk_nil (by kernel_rfl)

/- 11 nodes -/
noncomputable def tuple_Text_l0_v0 (t6 : List AV) (t8 : Int) : Option (List UInt8) := value_Literal ((t6.getD t8.toNat AV.top).cells.getD (0 : Nat) AV.top).toInt ((t6.getD t8.toNat AV.top).cells.getD (1 : Nat) AV.top).toInt ((t6.getD t8.toNat AV.top).cells.getD (2 : Nat) AV.top).toStr
noncomputable def tuple_Text_l0_t {T : Type} (t6 : List AV) (t7 : Int) (l_n : Nat) (t8 : Int) (l_xs : List AV) (δ : T) (κl : (Nat × Int × List AV) → T) (κr : (Nat × List AV) → T) : T := br (decide (t8 < t7)) (br (decide ((0 : Int) ≤ t8) && decide (t8 < (↑t6.length : Int))) (br (decide (t8.toNat < t6.length) && ((t6.getD t8.toNat AV.top).cells.length == (3 : Nat) && hasShs [Sh.int IntKind.i64, Sh.int IntKind.i64, Sh.str] (t6.getD t8.toNat AV.top).cells (0 : Nat))) (br ((tuple_Text_l0_v0 t6 t8).isSome) (br (l_n == l_xs.length && (decide ((l_n + (1 : Nat)) * (16 : Nat) ≤ (140737488355328 : Nat)) && decide (l_n + (1 : Nat) ≤ (4611686018427387904 : Nat)))) (κl (l_n + (1 : Nat), IntKind.i64.wrap (t8 + (1 : Int)), l_xs ++ [AV.str ((tuple_Text_l0_v0 t6 t8).getD [])])) (δ)) (δ)) (δ)) (δ)) (κr (l_n, l_xs))
noncomputable def tuple_Text_l0_step (t6 : List AV) (t7 : Int) : (Nat × Int × List AV) → Option ((Nat × Int × List AV) ⊕ (Nat × List AV)) := fun (l_n, t8, l_xs) => tuple_Text_l0_t t6 t7 l_n t8 l_xs none (fun s => some (.inl s)) (fun p => some (.inr p))
noncomputable def tuple_Text_l0_L (t6 : List AV) (t7 : Int) : (Nat × Int × List AV) → List AV × List Box := fun (l_n, t8, l_xs) => ([AV.osl 0 0 0 l_n, AV.list (3 : Nat) t6, AV.int IntKind.i64 t7, AV.int IntKind.i64 t8], [⟨0, (1 : Nat), (9 : Nat), l_xs, false, true⟩])
noncomputable def tuple_Text_l0_out (t6 : List AV) (t7 : Int) : (Nat × List AV) → LR := fun p => (.leaf (Exit.exit (0 : Nat)) [AV.osl 0 0 0 p.1] [⟨0, (1 : Nat), (9 : Nat), p.2, false, true⟩])
noncomputable abbrev tuple_Text_l0_X (vals : List AV) (H : List Box) := XR Tryz.prog tuple_Text_E0 [3, 6, 7, 8] [3] [(3, 1, 9)] (loopAt Tryz.f44 0) vals H
theorem tuple_Text_l0_r (t6 : List AV) (t7 : Int) (s : Nat × Int × List AV) : Enc (encR (tuple_Text_l0_L t6 t7) (tuple_Text_l0_out t6 t7)) (tuple_Text_l0_step t6 t7 s) (tuple_Text_l0_X (tuple_Text_l0_L t6 t7 s).1 (tuple_Text_l0_L t6 t7 s).2) := by
  obtain ⟨l_n, t8, l_xs⟩ := s
  have h : tuple_Text_l0_X (tuple_Text_l0_L t6 t7 (l_n, t8, l_xs)).1 (tuple_Text_l0_L t6 t7 (l_n, t8, l_xs)).2 = tuple_Text_l0_t t6 t7 l_n t8 l_xs none (fun s => some (encR (tuple_Text_l0_L t6 t7) (tuple_Text_l0_out t6 t7) (.inl s))) (fun p => some (encR (tuple_Text_l0_L t6 t7) (tuple_Text_l0_out t6 t7) (.inr p))) := by kernel_rfl
  rw [h]; unfold tuple_Text_l0_step tuple_Text_l0_t; repeat' (first | exact Enc.none | exact Enc.some rfl | refine Enc.br ?_ ?_)
noncomputable def tuple_Text_l0_lp : Lp := lpOf [3, 6, 7, 8] [3] [(3, 1, 9)] (pCons (pOsl (0 : Nat) (0 : Nat) (0 : Nat)) (pCons (pList (3 : Nat) pAny) (pCons (pInt IntKind.i64) (pCons (pInt IntKind.i64) pNil)))) (pCons (pBox (0 : Nat) (1 : Nat) (9 : Nat) false true pAny) pNil) fun (l_n, (t6, (t7, (t8, _)))) (l_xs, _) => ((Iter (tuple_Text_l0_step t6 t7) (l_n, t8, l_xs)).isSome, tuple_Text_l0_out t6 t7 ((Iter (tuple_Text_l0_step t6 t7) (l_n, t8, l_xs)).getD (0, [])))
theorem tuple_Text_l0_lok : LoopOk Tryz.prog (ITryz.at tuple_Text_E0.pin) tuple_Text_E0.nt (loopAt Tryz.f44 0) tuple_Text_l0_lp := lok_of fun vv bb rr hh => by
  obtain ⟨l_n, ⟨t6, ⟨t7, ⟨t8, _⟩⟩⟩⟩ := vv
  obtain ⟨l_xs, _⟩ := bb
  obtain ⟨hh1, rfl⟩ := Prod.mk.inj hh
  exact loop_of_XR mxTryz (inv0Ok Tryz.prog _) rfl tuple_Text_E0_ok tuple_Text_E0_lk44_0 (tuple_Text_l0_L t6 t7) (tuple_Text_l0_out t6 t7) (fun p => by simp only [tuple_Text_l0_out, LR.eval]; first | (simp; done) | (repeat' split <;> simp)) (tuple_Text_l0_r t6 t7) (s := (l_n, t8, l_xs)) (getD_of_isSome hh1)


/-- The environment of bitemporal/tuple.Text: its loops so far. -/

noncomputable def tuple_Text_E1 : Env := EK2_3.fn 22 0 (lsOf []) (lpsOf [(3, tuple_Text_l0_lp)])

theorem tuple_Text_E1_ok : OrcOk Tryz.prog (ITryz.at 0) tuple_Text_E1 := EK2_3_ok.fn

theorem tuple_Text_E1_lk44 : LoOk Tryz.prog (ITryz.at tuple_Text_E1.pin) tuple_Text_E1 (Tryz.f44.body.getD .skip) := loOk_all (ls := [loopAt Tryz.f44 0]) (by kernel_rfl) (fun l hl lp hs => by
  simp only [List.mem_cons, List.not_mem_nil, or_false] at hl
  rcases hl with rfl
  · rw [show tuple_Text_E1.lp (codeId (loopAt Tryz.f44 0)) = some tuple_Text_l0_lp by kernel_rfl] at hs
    simp only [Option.some.injEq] at hs; subst hs; exact tuple_Text_l0_lok)

/- 11 nodes -/
noncomputable def tuple_Text_v3 (row : List AV) : Nat × List AV := (Iter (tuple_Text_l0_step row (↑row.length : Int)) ((0 : Nat), (0 : Int), [])).getD ((0 : Nat), [])
noncomputable def tuple_Text_v1 (row : List AV) : List AV := (tuple_Text_v3 row).snd
noncomputable def tuple_Text_v2 (row : List AV) : Nat := (tuple_Text_v3 row).fst
noncomputable def tuple_Text_v0 (row : List AV) : List AV := List.take (tuple_Text_v2 row) (List.drop (0 : Nat) (tuple_Text_v1 row))
noncomputable def tuple_Text_t {T : Type} (row : List AV) (δ : T) (κ : List UInt8 → T) : T := br ((Iter (tuple_Text_l0_step row (↑row.length : Int)) ((0 : Nat), (0 : Int), [])).isSome) (br (decide ((0 : Nat) + tuple_Text_v2 row ≤ (tuple_Text_v1 row).length) && true) (br ((tuple_Text_v0 row).all AV.isStr && (decide ((tuple_Text_v0 row).length ≤ (140737488355328 : Nat)) && decide ((Lib.join (List.map AV.toStr (tuple_Text_v0 row)) [(44 : UInt8), (32 : UInt8)]).length ≤ (140737488355328 : Nat)))) (br (decide ((1 : Nat) + (Lib.join (List.map AV.toStr (tuple_Text_v0 row)) [(44 : UInt8), (32 : UInt8)]).length ≤ (4611686018427387904 : Nat))) (br (decide (([(40 : UInt8)] ++ Lib.join (List.map AV.toStr (tuple_Text_v0 row)) [(44 : UInt8), (32 : UInt8)]).length + (1 : Nat) ≤ (4611686018427387904 : Nat))) (κ ([(40 : UInt8)] ++ Lib.join (List.map AV.toStr (tuple_Text_v0 row)) [(44 : UInt8), (32 : UInt8)] ++ [(41 : UInt8)])) (δ)) (δ)) (δ)) (δ)) (δ)
noncomputable def tuple_Text (row : List AV) : Option (List UInt8) := tuple_Text_t row none some
theorem tuple_Text_x (row : List AV) : Enc (fun (p : List UInt8) => ((AV.str p) : AV)) (tuple_Text row) (XF Tryz.prog tuple_Text_E1 Tryz.f44 (Tryz.f44.body.getD .skip) [AV.list (3 : Nat) row]) := by
  have h : XF Tryz.prog tuple_Text_E1 Tryz.f44 (Tryz.f44.body.getD .skip) [AV.list (3 : Nat) row] = tuple_Text_t row none (fun (p : List UInt8) => some ((AV.str p) : AV)) := by kernel_rfl
  rw [h]; unfold tuple_Text tuple_Text_t; repeat' (first | exact Enc.none | exact Enc.some rfl | refine Enc.br ?_ ?_)
noncomputable def tuple_Text_o : List AV → Option (Bool × AV) := ocOf (sCons (sList (3 : Nat) pAny) sNil) fun (row, _) => ((tuple_Text row).isSome, (AV.str ((tuple_Text row).getD [])))
theorem tuple_Text_c : OcOk Tryz.prog ITryz 44 (tuple_Text_o) := ocOk_of fun vv rr hh => by
  obtain ⟨row, _⟩ := vv
  obtain ⟨hh1, hh2⟩ := Prod.mk.inj hh
  refine good_pin (p := tuple_Text_E1.pin) (good_XF mxTryz (inv0Ok Tryz.prog _) rfl tuple_Text_E1_ok Tryz.func44 rfl (by kernel_rfl) tuple_Text_E1_lk44 ((tuple_Text_x _ _ (getD_of_isSome (d := []) hh1)).trans ?_))
  exact congrArg some hh2


noncomputable def EK2_4 : Env := EK2_3.with 44 tuple_Text_o

theorem EK2_4_ok : OrcOk Tryz.prog ITryz EK2_4 := EK2_3_ok.with tuple_Text_c

/-- The environment of bitemporal/period.Valid: its loops so far. -/

noncomputable def period_Valid_E0 : Env := EK2_4.fn 18 0 (lsOf []) (lpsOf [])

theorem period_Valid_E0_ok : OrcOk Tryz.prog (ITryz.at 0) period_Valid_E0 := EK2_4_ok.fn

theorem period_Valid_E0_lk37 : LoOk Tryz.prog (ITryz.at period_Valid_E0.pin) period_Valid_E0 (Tryz.f37.body.getD .skip) := loOk_nil (by kernel_rfl)

/- 5 nodes -/
noncomputable def period_Valid (p0_f : Int) (p0_t : Int) : Bool := (br (decide (p0_f ≥ (0 : Int))) (br (decide (p0_f < p0_t)) ((decide (p0_t ≤ (1099511627776 : Int)))) ((false))) ((false)))
noncomputable def period_Valid_pre (p0_f : Int) (p0_t : Int) : Bool := true
noncomputable def period_Valid_t {T : Type} (p0_f : Int) (p0_t : Int) (δ : T) (κ : Bool → T) : T := br (decide (p0_f ≥ (0 : Int))) (br (decide (p0_f < p0_t)) (κ (decide (p0_t ≤ (1099511627776 : Int)))) (κ (false))) (κ (false))
theorem period_Valid_x (p0_f : Int) (p0_t : Int) : Pre (period_Valid_pre p0_f p0_t) (XF Tryz.prog period_Valid_E0 Tryz.f37 (Tryz.f37.body.getD .skip) [AV.agg [AV.int IntKind.i64 p0_f, AV.int IntKind.i64 p0_t]]) (AV.bool (period_Valid p0_f p0_t)) := by
  have h : XF Tryz.prog period_Valid_E0 Tryz.f37 (Tryz.f37.body.getD .skip) [AV.agg [AV.int IntKind.i64 p0_f, AV.int IntKind.i64 p0_t]] = period_Valid_t p0_f p0_t none (fun (p : Bool) => some ((AV.bool p) : AV)) := by kernel_rfl
  rw [h]; unfold period_Valid period_Valid_pre period_Valid_t; repeat' (first | exact Pre.none | exact Pre.tt rfl | exact Pre.some rfl | refine Pre.l ?_ | refine Pre.r ?_ | refine Pre.br (f := fun (p : Bool) => ((AV.bool p) : AV)) ?_ ?_ | refine Pre.brt (f := fun (p : Bool) => ((AV.bool p) : AV)) ?_ ?_)
noncomputable def period_Valid_o : List AV → Option (Bool × AV) := ocOf (sCons (sAgg (sCons (sEq (pInt IntKind.i64)) (sCons (sEq (pInt IntKind.i64)) sNil))) sNil) fun ((p0_f, (p0_t, _)), _) => (true, (AV.bool (period_Valid p0_f p0_t)))
theorem period_Valid_c : OcOk Tryz.prog ITryz 37 (period_Valid_o) := ocOk_of fun vv rr hh => by
  obtain ⟨⟨p0_f, ⟨p0_t, _⟩⟩, _⟩ := vv
  obtain ⟨hh1, hh2⟩ := Prod.mk.inj hh
  refine good_pin (p := period_Valid_E0.pin) (good_XF mxTryz (inv0Ok Tryz.prog _) rfl period_Valid_E0_ok Tryz.func37 rfl (by kernel_rfl) period_Valid_E0_lk37 ((Pre.get (period_Valid_x _ _) rfl).trans ?_))
  exact congrArg some hh2


noncomputable def EK2_5 : Env := EK2_4.with 37 period_Valid_o

theorem EK2_5_ok : OrcOk Tryz.prog ITryz EK2_5 := EK2_4_ok.with period_Valid_c

/-- The environment of bitemporal/period.Text: its loops so far. -/

noncomputable def period_Text_E0 : Env := EK2_5.fn 21 0 (lsOf []) (lpsOf [])

theorem period_Text_E0_ok : OrcOk Tryz.prog (ITryz.at 0) period_Text_E0 := EK2_5_ok.fn

theorem period_Text_E0_lk29 : LoOk Tryz.prog (ITryz.at period_Text_E0.pin) period_Text_E0 (Tryz.f29.body.getD .skip) := loOk_nil (by kernel_rfl)

/- 27 nodes -/
noncomputable def period_Text_v0 (p0_f : Int) (p0_t : Int) : Bool := decide ((-9223372036854775808 : Int) ≤ p0_f) && decide (p0_f ≤ (9223372036854775807 : Int))
noncomputable def period_Text_v1 (p0_f : Int) (p0_t : Int) : Bool := decide (([(91 : UInt8)] ++ Lib.itoa p0_f).length + (2 : Nat) ≤ (4611686018427387904 : Nat))
noncomputable def period_Text_v2 (p0_f : Int) (p0_t : Int) : Bool := decide ((1 : Nat) + (Lib.itoa p0_f).length ≤ (4611686018427387904 : Nat))
noncomputable def period_Text_v4 (p0_f : Int) : List UInt8 := [(91 : UInt8)] ++ Lib.itoa p0_f ++ [(44 : UInt8), (32 : UInt8)]
noncomputable def period_Text_v3 (p0_f : Int) : List UInt8 := period_Text_v4 p0_f ++ [(102 : UInt8), (111 : UInt8), (114 : UInt8), (101 : UInt8), (118 : UInt8), (101 : UInt8), (114 : UInt8)]
noncomputable def period_Text_t {T : Type} (p0_f : Int) (p0_t : Int) (δ : T) (κ : List UInt8 → T) : T := br (!period_Valid p0_f p0_t) (κ ([])) (br (p0_t != (1099511627776 : Int)) (br (decide ((-9223372036854775808 : Int) ≤ p0_t) && decide (p0_t ≤ (9223372036854775807 : Int))) (br (period_Text_v0 p0_f p0_t) (br (period_Text_v2 p0_f p0_t) (br (period_Text_v1 p0_f p0_t) (br (decide ((period_Text_v4 p0_f).length + (Lib.itoa p0_t).length ≤ (4611686018427387904 : Nat))) (br (decide ((period_Text_v4 p0_f ++ Lib.itoa p0_t).length + (1 : Nat) ≤ (4611686018427387904 : Nat))) (κ (period_Text_v4 p0_f ++ Lib.itoa p0_t ++ [(41 : UInt8)])) (δ)) (δ)) (δ)) (δ)) (δ)) (δ)) (br (period_Text_v0 p0_f p0_t) (br (period_Text_v2 p0_f p0_t) (br (period_Text_v1 p0_f p0_t) (br (decide ((period_Text_v4 p0_f).length + (7 : Nat) ≤ (4611686018427387904 : Nat))) (br (decide ((period_Text_v3 p0_f).length + (1 : Nat) ≤ (4611686018427387904 : Nat))) (κ (period_Text_v3 p0_f ++ [(41 : UInt8)])) (δ)) (δ)) (δ)) (δ)) (δ)))
noncomputable def period_Text (p0_f : Int) (p0_t : Int) : Option (List UInt8) := period_Text_t p0_f p0_t none some
theorem period_Text_x (p0_f : Int) (p0_t : Int) : Enc (fun (p : List UInt8) => ((AV.str p) : AV)) (period_Text p0_f p0_t) (XF Tryz.prog period_Text_E0 Tryz.f29 (Tryz.f29.body.getD .skip) [AV.agg [AV.int IntKind.i64 p0_f, AV.int IntKind.i64 p0_t]]) := by
  have h : XF Tryz.prog period_Text_E0 Tryz.f29 (Tryz.f29.body.getD .skip) [AV.agg [AV.int IntKind.i64 p0_f, AV.int IntKind.i64 p0_t]] = period_Text_t p0_f p0_t none (fun (p : List UInt8) => some ((AV.str p) : AV)) := by kernel_rfl
  rw [h]; unfold period_Text period_Text_t; repeat' (first | exact Enc.none | exact Enc.some rfl | refine Enc.br ?_ ?_)
noncomputable def period_Text_o : List AV → Option (Bool × AV) := ocOf (sCons (sAgg (sCons (sEq (pInt IntKind.i64)) (sCons (sEq (pInt IntKind.i64)) sNil))) sNil) fun ((p0_f, (p0_t, _)), _) => ((period_Text p0_f p0_t).isSome, (AV.str ((period_Text p0_f p0_t).getD [])))
theorem period_Text_c : OcOk Tryz.prog ITryz 29 (period_Text_o) := ocOk_of fun vv rr hh => by
  obtain ⟨⟨p0_f, ⟨p0_t, _⟩⟩, _⟩ := vv
  obtain ⟨hh1, hh2⟩ := Prod.mk.inj hh
  refine good_pin (p := period_Text_E0.pin) (good_XF mxTryz (inv0Ok Tryz.prog _) rfl period_Text_E0_ok Tryz.func29 rfl (by kernel_rfl) period_Text_E0_lk29 ((period_Text_x _ _ _ (getD_of_isSome (d := []) hh1)).trans ?_))
  exact congrArg some hh2


noncomputable def EK2_6 : Env := EK2_5.with 29 period_Text_o

theorem EK2_6_ok : OrcOk Tryz.prog ITryz EK2_6 := EK2_5_ok.with period_Text_c

/-- The environment of bitemporal/report.line: its loops so far. -/

noncomputable def report_line_E0 : Env := EK2_6.fn 9 0 (lsOf []) (lpsOf [])

theorem report_line_E0_ok : OrcOk Tryz.prog (ITryz.at 0) report_line_E0 := EK2_6_ok.fn

theorem report_line_E0_lk24 : LoOk Tryz.prog (ITryz.at report_line_E0.pin) report_line_E0 (Tryz.f24.body.getD .skip) := loOk_nil (by kernel_rfl)

/- 5 nodes -/
noncomputable def report_line_t {T : Type} (separator : List UInt8) (parts : List AV) (δ : T) (κ : List UInt8 → T) : T := br (parts.all AV.isStr && (decide (parts.length ≤ (140737488355328 : Nat)) && decide ((Lib.join (List.map AV.toStr parts) separator).length ≤ (140737488355328 : Nat)))) (br (decide ((Lib.join (List.map AV.toStr parts) separator).length + (1 : Nat) ≤ (4611686018427387904 : Nat))) (κ (Lib.join (List.map AV.toStr parts) separator ++ [(10 : UInt8)])) (δ)) (δ)
noncomputable def report_line (separator : List UInt8) (parts : List AV) : Option (List UInt8) := report_line_t separator parts none some
theorem report_line_x (separator : List UInt8) (parts : List AV) : Enc (fun (p : List UInt8) => ((AV.str p) : AV)) (report_line separator parts) (XF Tryz.prog report_line_E0 Tryz.f24 (Tryz.f24.body.getD .skip) [AV.str separator, AV.list (1 : Nat) parts]) := by
  have h : XF Tryz.prog report_line_E0 Tryz.f24 (Tryz.f24.body.getD .skip) [AV.str separator, AV.list (1 : Nat) parts] = report_line_t separator parts none (fun (p : List UInt8) => some ((AV.str p) : AV)) := by kernel_rfl
  rw [h]; unfold report_line report_line_t; repeat' (first | exact Enc.none | exact Enc.some rfl | refine Enc.br ?_ ?_)
noncomputable def report_line_o : List AV → Option (Bool × AV) := ocOf (sCons (sEq pStr) (sCons (sList (1 : Nat) pAny) sNil)) fun (separator, (parts, _)) => ((report_line separator parts).isSome, (AV.str ((report_line separator parts).getD [])))
theorem report_line_c : OcOk Tryz.prog ITryz 24 (report_line_o) := ocOk_of fun vv rr hh => by
  obtain ⟨separator, ⟨parts, _⟩⟩ := vv
  obtain ⟨hh1, hh2⟩ := Prod.mk.inj hh
  refine good_pin (p := report_line_E0.pin) (good_XF mxTryz (inv0Ok Tryz.prog _) rfl report_line_E0_ok Tryz.func24 rfl (by kernel_rfl) report_line_E0_lk24 ((report_line_x _ _ _ (getD_of_isSome (d := []) hh1)).trans ?_))
  exact congrArg some hh2


noncomputable def EK2_7 : Env := EK2_6.with 24 report_line_o

theorem EK2_7_ok : OrcOk Tryz.prog ITryz EK2_7 := EK2_6_ok.with report_line_c

/-- The environment of bitemporal/report.Violation: its loops so far. -/

noncomputable def report_Violation_E0 : Env := EK2_7.fn 37 0 (lsOf []) (lpsOf [])

theorem report_Violation_E0_ok : OrcOk Tryz.prog (ITryz.at 0) report_Violation_E0 := EK2_7_ok.fn

theorem report_Violation_E0_lk15 : LoOk Tryz.prog (ITryz.at report_Violation_E0.pin) report_Violation_E0 (Tryz.f15.body.getD .skip) := loOk_nil (by kernel_rfl)

/- 57 nodes -/
noncomputable def report_Violation_v0 (v_k : Int) (v_tb : List UInt8) (v_ix : Int) (v_r : List AV) (v_f : Int) (v_t : Int) : Bool := decide (v_tb.length + (1 : Nat) ≤ (4611686018427387904 : Nat))
noncomputable def report_Violation_v1 (v_tb : List UInt8) (v_ix : Int) (v_r : List AV) (v_f : Int) (v_t : Int) : Option (List UInt8) := report_line [(32 : UInt8)] [AV.str (v_tb ++ [(58 : UInt8)]), AV.str ([(110 : UInt8), (111 : UInt8), (116 : UInt8), (32 : UInt8), (110 : UInt8), (117 : UInt8), (108 : UInt8), (108 : UInt8), (32 : UInt8), (111 : UInt8), (102 : UInt8), (32 : UInt8), (99 : UInt8), (111 : UInt8), (108 : UInt8), (117 : UInt8), (109 : UInt8), (110 : UInt8), (32 : UInt8)] ++ Lib.itoa (IntKind.i64.wrap (v_ix + (1 : Int)))), AV.str [(118 : UInt8), (105 : UInt8), (111 : UInt8), (108 : UInt8), (97 : UInt8), (116 : UInt8), (101 : UInt8), (100 : UInt8), (32 : UInt8), (98 : UInt8), (121 : UInt8)], AV.str ((tuple_Text v_r).getD []), AV.str [(100 : UInt8), (117 : UInt8), (114 : UInt8), (105 : UInt8), (110 : UInt8), (103 : UInt8)], AV.str ((period_Text v_f v_t).getD [])]
noncomputable def report_Violation_v2 (v_tb : List UInt8) (v_ix : Int) (v_r : List AV) (v_f : Int) (v_t : Int) : Option (List UInt8) := report_line [(32 : UInt8)] [AV.str (v_tb ++ [(58 : UInt8)]), AV.str ([(102 : UInt8), (111 : UInt8), (114 : UInt8), (101 : UInt8), (105 : UInt8), (103 : UInt8), (110 : UInt8), (32 : UInt8), (107 : UInt8), (101 : UInt8), (121 : UInt8), (32 : UInt8)] ++ Lib.itoa (IntKind.i64.wrap (v_ix + (1 : Int)))), AV.str [(118 : UInt8), (105 : UInt8), (111 : UInt8), (108 : UInt8), (97 : UInt8), (116 : UInt8), (101 : UInt8), (100 : UInt8), (32 : UInt8), (98 : UInt8), (121 : UInt8)], AV.str ((tuple_Text v_r).getD []), AV.str [(100 : UInt8), (117 : UInt8), (114 : UInt8), (105 : UInt8), (110 : UInt8), (103 : UInt8)], AV.str ((period_Text v_f v_t).getD [])]
noncomputable def report_Violation_v3 (v_tb : List UInt8) (v_ix : Int) (v_r : List AV) (v_f : Int) (v_t : Int) : Option (List UInt8) := report_line [(32 : UInt8)] [AV.str (v_tb ++ [(58 : UInt8)]), AV.str ([(99 : UInt8), (104 : UInt8), (101 : UInt8), (99 : UInt8), (107 : UInt8), (32 : UInt8)] ++ Lib.itoa (IntKind.i64.wrap (v_ix + (1 : Int)))), AV.str [(118 : UInt8), (105 : UInt8), (111 : UInt8), (108 : UInt8), (97 : UInt8), (116 : UInt8), (101 : UInt8), (100 : UInt8), (32 : UInt8), (98 : UInt8), (121 : UInt8)], AV.str ((tuple_Text v_r).getD []), AV.str [(100 : UInt8), (117 : UInt8), (114 : UInt8), (105 : UInt8), (110 : UInt8), (103 : UInt8)], AV.str ((period_Text v_f v_t).getD [])]
noncomputable def report_Violation_v4 (v_tb : List UInt8) (v_r : List AV) (v_f : Int) (v_t : Int) : Option (List UInt8) := report_line [(32 : UInt8)] [AV.str (v_tb ++ [(58 : UInt8)]), AV.str [(117 : UInt8), (110 : UInt8), (107 : UInt8), (110 : UInt8), (111 : UInt8), (119 : UInt8), (110 : UInt8)], AV.str [(118 : UInt8), (105 : UInt8), (111 : UInt8), (108 : UInt8), (97 : UInt8), (116 : UInt8), (101 : UInt8), (100 : UInt8), (32 : UInt8), (98 : UInt8), (121 : UInt8)], AV.str ((tuple_Text v_r).getD []), AV.str [(100 : UInt8), (117 : UInt8), (114 : UInt8), (105 : UInt8), (110 : UInt8), (103 : UInt8)], AV.str ((period_Text v_f v_t).getD [])]
noncomputable def report_Violation_v5 (v_tb : List UInt8) (v_r : List AV) (v_f : Int) (v_t : Int) : Option (List UInt8) := report_line [(32 : UInt8)] [AV.str (v_tb ++ [(58 : UInt8)]), AV.str [(107 : UInt8), (101 : UInt8), (121 : UInt8)], AV.str [(118 : UInt8), (105 : UInt8), (111 : UInt8), (108 : UInt8), (97 : UInt8), (116 : UInt8), (101 : UInt8), (100 : UInt8), (32 : UInt8), (98 : UInt8), (121 : UInt8)], AV.str ((tuple_Text v_r).getD []), AV.str [(100 : UInt8), (117 : UInt8), (114 : UInt8), (105 : UInt8), (110 : UInt8), (103 : UInt8)], AV.str ((period_Text v_f v_t).getD [])]
noncomputable def report_Violation_t {T : Type} (v_k : Int) (v_tb : List UInt8) (v_ix : Int) (v_r : List AV) (v_f : Int) (v_t : Int) (δ : T) (κ : List UInt8 → T) : T := br (decide ((-9223372036854775808 : Int) ≤ IntKind.i64.wrap (v_ix + (1 : Int))) && decide (IntKind.i64.wrap (v_ix + (1 : Int)) ≤ (9223372036854775807 : Int))) (br (v_k == (1 : Int)) (br (decide ((19 : Nat) + (Lib.itoa (IntKind.i64.wrap (v_ix + (1 : Int)))).length ≤ (4611686018427387904 : Nat))) (br (report_Violation_v0 v_k v_tb v_ix v_r v_f v_t) (br ((tuple_Text v_r).isSome) (br ((period_Text v_f v_t).isSome) (br ((report_Violation_v1 v_tb v_ix v_r v_f v_t).isSome) (κ ((report_Violation_v1 v_tb v_ix v_r v_f v_t).getD [])) (δ)) (δ)) (δ)) (δ)) (δ)) (br (v_k == (2 : Int)) (br (report_Violation_v0 v_k v_tb v_ix v_r v_f v_t) (br ((tuple_Text v_r).isSome) (br ((period_Text v_f v_t).isSome) (br ((report_Violation_v5 v_tb v_r v_f v_t).isSome) (κ ((report_Violation_v5 v_tb v_r v_f v_t).getD [])) (δ)) (δ)) (δ)) (δ)) (br (v_k == (3 : Int)) (br (decide ((12 : Nat) + (Lib.itoa (IntKind.i64.wrap (v_ix + (1 : Int)))).length ≤ (4611686018427387904 : Nat))) (br (report_Violation_v0 v_k v_tb v_ix v_r v_f v_t) (br ((tuple_Text v_r).isSome) (br ((period_Text v_f v_t).isSome) (br ((report_Violation_v2 v_tb v_ix v_r v_f v_t).isSome) (κ ((report_Violation_v2 v_tb v_ix v_r v_f v_t).getD [])) (δ)) (δ)) (δ)) (δ)) (δ)) (br (v_k == (4 : Int)) (br (decide ((6 : Nat) + (Lib.itoa (IntKind.i64.wrap (v_ix + (1 : Int)))).length ≤ (4611686018427387904 : Nat))) (br (report_Violation_v0 v_k v_tb v_ix v_r v_f v_t) (br ((tuple_Text v_r).isSome) (br ((period_Text v_f v_t).isSome) (br ((report_Violation_v3 v_tb v_ix v_r v_f v_t).isSome) (κ ((report_Violation_v3 v_tb v_ix v_r v_f v_t).getD [])) (δ)) (δ)) (δ)) (δ)) (δ)) (br (report_Violation_v0 v_k v_tb v_ix v_r v_f v_t) (br ((tuple_Text v_r).isSome) (br ((period_Text v_f v_t).isSome) (br ((report_Violation_v4 v_tb v_r v_f v_t).isSome) (κ ((report_Violation_v4 v_tb v_r v_f v_t).getD [])) (δ)) (δ)) (δ)) (δ)))))) (δ)
noncomputable def report_Violation (v_k : Int) (v_tb : List UInt8) (v_ix : Int) (v_r : List AV) (v_f : Int) (v_t : Int) : Option (List UInt8) := report_Violation_t v_k v_tb v_ix v_r v_f v_t none some
theorem report_Violation_x (v_k : Int) (v_tb : List UInt8) (v_ix : Int) (v_r : List AV) (v_f : Int) (v_t : Int) : Enc (fun (p : List UInt8) => ((AV.str p) : AV)) (report_Violation v_k v_tb v_ix v_r v_f v_t) (XF Tryz.prog report_Violation_E0 Tryz.f15 (Tryz.f15.body.getD .skip) [AV.agg [AV.int IntKind.i64 v_k, AV.str v_tb, AV.int IntKind.i64 v_ix, AV.list (3 : Nat) v_r, AV.int IntKind.i64 v_f, AV.int IntKind.i64 v_t]]) := by
  have h : XF Tryz.prog report_Violation_E0 Tryz.f15 (Tryz.f15.body.getD .skip) [AV.agg [AV.int IntKind.i64 v_k, AV.str v_tb, AV.int IntKind.i64 v_ix, AV.list (3 : Nat) v_r, AV.int IntKind.i64 v_f, AV.int IntKind.i64 v_t]] = report_Violation_t v_k v_tb v_ix v_r v_f v_t none (fun (p : List UInt8) => some ((AV.str p) : AV)) := by kernel_rfl
  rw [h]; unfold report_Violation report_Violation_t; repeat' (first | exact Enc.none | exact Enc.some rfl | refine Enc.br ?_ ?_)
noncomputable def report_Violation_o : List AV → Option (Bool × AV) := ocOf (sCons (sAgg (sCons (sEq (pInt IntKind.i64)) (sCons (sEq pStr) (sCons (sEq (pInt IntKind.i64)) (sCons (sList (3 : Nat) pAny) (sCons (sEq (pInt IntKind.i64)) (sCons (sEq (pInt IntKind.i64)) sNil))))))) sNil) fun ((v_k, (v_tb, (v_ix, (v_r, (v_f, (v_t, _)))))), _) => ((report_Violation v_k v_tb v_ix v_r v_f v_t).isSome, (AV.str ((report_Violation v_k v_tb v_ix v_r v_f v_t).getD [])))
theorem report_Violation_c : OcOk Tryz.prog ITryz 15 (report_Violation_o) := ocOk_of fun vv rr hh => by
  obtain ⟨⟨v_k, ⟨v_tb, ⟨v_ix, ⟨v_r, ⟨v_f, ⟨v_t, _⟩⟩⟩⟩⟩⟩, _⟩ := vv
  obtain ⟨hh1, hh2⟩ := Prod.mk.inj hh
  refine good_pin (p := report_Violation_E0.pin) (good_XF mxTryz (inv0Ok Tryz.prog _) rfl report_Violation_E0_ok Tryz.func15 rfl (by kernel_rfl) report_Violation_E0_lk15 ((report_Violation_x _ _ _ _ _ _ _ (getD_of_isSome (d := []) hh1)).trans ?_))
  exact congrArg some hh2


noncomputable def EK2_8 : Env := EK2_7.with 15 report_Violation_o

theorem EK2_8_ok : OrcOk Tryz.prog ITryz EK2_8 := EK2_7_ok.with report_Violation_c

noncomputable abbrev EK2 : Env := EK2_8

theorem EK2_ok : OrcOk Tryz.prog ITryz EK2 := EK2_8_ok

end Go.Sim.M
