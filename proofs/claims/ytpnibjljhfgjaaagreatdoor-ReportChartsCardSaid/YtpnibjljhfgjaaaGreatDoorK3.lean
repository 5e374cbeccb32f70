/- Functions of the program as the executor found them: printed by program, checked by the kernel. -/
import Derived.Test.YtpnibjljhfgjaaaGreatDoorK2
set_option linter.unusedVariables false
set_option linter.unusedSimpArgs false
set_option maxRecDepth 100000
namespace Go.Sim.M
open Go.RowKit Go.Proofs

/-- The environment of bitemporal/bitemporalref01.Number: its loops so far. -/

noncomputable def ref01_Number_E0 : Env := EK2.fn 22 0 (lsOf []) (lpsOf [])

theorem ref01_Number_E0_ok : OrcOk Tryz.prog (ITryz.at 0) ref01_Number_E0 := EK2_ok.fn

theorem ref01_Number_E0_lk58_0 : LoOk Tryz.prog (ITryz.at ref01_Number_E0.pin) ref01_Number_E0 (loopAt Tryz.f58 0) := loOk_nil (by kernel_rfl)

/- 7 nodes -/
noncomputable def ref01_Number_l0_v0 (n : Int) : List UInt8 := List.take ((IntKind.i64.wrap (n.tmod (10 : Int) + (1 : Int))).toNat - (n.tmod (10 : Int)).toNat) (List.drop (n.tmod (10 : Int)).toNat [(48 : UInt8), (49 : UInt8), (50 : UInt8), (51 : UInt8), (52 : UInt8), (53 : UInt8), (54 : UInt8), (55 : UInt8), (56 : UInt8), (57 : UInt8)])
noncomputable def ref01_Number_l0_t {T : Type} (n : Int) (s0 : List UInt8) (δ : T) (κl : (Int × List UInt8) → T) (κr : (Int × List UInt8) → T) : T := br (decide (n > (9 : Int))) (br (decide ((0 : Int) ≤ IntKind.i64.wrap (n.tmod (10 : Int) + (1 : Int))) && decide (IntKind.i64.wrap (n.tmod (10 : Int) + (1 : Int)) ≤ (10 : Int)) && (decide ((0 : Int) ≤ n.tmod (10 : Int)) && decide (n.tmod (10 : Int) ≤ (↑(IntKind.i64.wrap (n.tmod (10 : Int) + (1 : Int))).toNat : Int)))) (br (decide ((ref01_Number_l0_v0 n).length + s0.length ≤ (4611686018427387904 : Nat))) (κl (IntKind.i64.wrap (n.tdiv (10 : Int)), ref01_Number_l0_v0 n ++ s0)) (δ)) (δ)) (κr (n, s0))
noncomputable def ref01_Number_l0_step : (Int × List UInt8) → Option ((Int × List UInt8) ⊕ (Int × List UInt8)) := fun (n, s0) => ref01_Number_l0_t n s0 none (fun s => some (.inl s)) (fun p => some (.inr p))
noncomputable def ref01_Number_l0_L : (Int × List UInt8) → List AV × List Box := fun (n, s0) => ([AV.int IntKind.i64 n, AV.str s0], [])
noncomputable def ref01_Number_l0_out : (Int × List UInt8) → LR := fun p => (.leaf (Exit.exit (0 : Nat)) [AV.int IntKind.i64 p.1, AV.str p.2] [])
noncomputable abbrev ref01_Number_l0_X (vals : List AV) (H : List Box) := XR Tryz.prog ref01_Number_E0 [0, 3] [0, 3] [] (loopAt Tryz.f58 0) vals H
theorem ref01_Number_l0_r (s : Int × List UInt8) : Enc (encR (ref01_Number_l0_L) (ref01_Number_l0_out)) (ref01_Number_l0_step s) (ref01_Number_l0_X (ref01_Number_l0_L s).1 (ref01_Number_l0_L s).2) := by
  obtain ⟨n, s0⟩ := s
  have h : ref01_Number_l0_X (ref01_Number_l0_L (n, s0)).1 (ref01_Number_l0_L (n, s0)).2 = ref01_Number_l0_t n s0 none (fun s => some (encR (ref01_Number_l0_L) (ref01_Number_l0_out) (.inl s))) (fun p => some (encR (ref01_Number_l0_L) (ref01_Number_l0_out) (.inr p))) := by kernel_rfl
  rw [h]; unfold ref01_Number_l0_step ref01_Number_l0_t; repeat' (first | exact Enc.none | exact Enc.some rfl | refine Enc.br ?_ ?_)
noncomputable def ref01_Number_l0_lp : Lp := lpOf [0, 3] [0, 3] [] (pCons (pInt IntKind.i64) (pCons pStr pNil)) pNil fun (n, (s0, _)) _ => ((Iter (ref01_Number_l0_step) (n, s0)).isSome, ref01_Number_l0_out ((Iter (ref01_Number_l0_step) (n, s0)).getD (0, [])))
theorem ref01_Number_l0_lok : LoopOk Tryz.prog (ITryz.at ref01_Number_E0.pin) ref01_Number_E0.nt (loopAt Tryz.f58 0) ref01_Number_l0_lp := lok_of fun vv bb rr hh => by
  obtain ⟨n, ⟨s0, _⟩⟩ := vv
  obtain ⟨hh1, rfl⟩ := Prod.mk.inj hh
  exact loop_of_XR mxTryz (inv0Ok Tryz.prog _) rfl ref01_Number_E0_ok ref01_Number_E0_lk58_0 (ref01_Number_l0_L) (ref01_Number_l0_out) (fun p => by simp only [ref01_Number_l0_out, LR.eval]; first | (simp; done) | (repeat' split <;> simp)) (ref01_Number_l0_r) (s := (n, s0)) (getD_of_isSome hh1)


/-- The environment of bitemporal/bitemporalref01.Number: its loops so far. -/

noncomputable def ref01_Number_E1 : Env := EK2.fn 22 0 (lsOf []) (lpsOf [(2, ref01_Number_l0_lp)])

theorem ref01_Number_E1_ok : OrcOk Tryz.prog (ITryz.at 0) ref01_Number_E1 := EK2_ok.fn

theorem ref01_Number_E1_lk58 : LoOk Tryz.prog (ITryz.at ref01_Number_E1.pin) ref01_Number_E1 (Tryz.f58.body.getD .skip) := loOk_all (ls := [loopAt Tryz.f58 0]) (by kernel_rfl) (fun l hl lp hs => by
  simp only [List.mem_cons, List.not_mem_nil, or_false] at hl
  rcases hl with rfl
  · rw [show ref01_Number_E1.lp (codeId (loopAt Tryz.f58 0)) = some ref01_Number_l0_lp by kernel_rfl] at hs
    simp only [Option.some.injEq] at hs; subst hs; exact ref01_Number_l0_lok)

/- 7 nodes -/
noncomputable def ref01_Number_v1 (n : Int) : Int := ((Iter ref01_Number_l0_step (n, [])).getD ((0 : Int), [])).fst
noncomputable def ref01_Number_v0 (n : Int) : List UInt8 := List.take ((IntKind.i64.wrap (ref01_Number_v1 n + (1 : Int))).toNat - (ref01_Number_v1 n).toNat) (List.drop (ref01_Number_v1 n).toNat [(48 : UInt8), (49 : UInt8), (50 : UInt8), (51 : UInt8), (52 : UInt8), (53 : UInt8), (54 : UInt8), (55 : UInt8), (56 : UInt8), (57 : UInt8)])
noncomputable def ref01_Number_t {T : Type} (n : Int) (δ : T) (κ : List UInt8 → T) : T := br ((Iter ref01_Number_l0_step (n, [])).isSome) (br (decide ((0 : Int) ≤ IntKind.i64.wrap (ref01_Number_v1 n + (1 : Int))) && decide (IntKind.i64.wrap (ref01_Number_v1 n + (1 : Int)) ≤ (10 : Int)) && (decide ((0 : Int) ≤ ref01_Number_v1 n) && decide (ref01_Number_v1 n ≤ (↑(IntKind.i64.wrap (ref01_Number_v1 n + (1 : Int))).toNat : Int)))) (br (decide ((ref01_Number_v0 n).length + ((Iter ref01_Number_l0_step (n, [])).getD ((0 : Int), [])).snd.length ≤ (4611686018427387904 : Nat))) (κ (ref01_Number_v0 n ++ ((Iter ref01_Number_l0_step (n, [])).getD ((0 : Int), [])).snd)) (δ)) (δ)) (δ)
noncomputable def ref01_Number (n : Int) : Option (List UInt8) := ref01_Number_t n none some
theorem ref01_Number_x (n : Int) : Enc (fun (p : List UInt8) => ((AV.str p) : AV)) (ref01_Number n) (XF Tryz.prog ref01_Number_E1 Tryz.f58 (Tryz.f58.body.getD .skip) [AV.int IntKind.i64 n]) := by
  have h : XF Tryz.prog ref01_Number_E1 Tryz.f58 (Tryz.f58.body.getD .skip) [AV.int IntKind.i64 n] = ref01_Number_t n none (fun (p : List UInt8) => some ((AV.str p) : AV)) := by kernel_rfl
  rw [h]; unfold ref01_Number ref01_Number_t; repeat' (first | exact Enc.none | exact Enc.some rfl | refine Enc.br ?_ ?_)
noncomputable def ref01_Number_o : List AV → Option (Bool × AV) := ocOf (sCons (sEq (pInt IntKind.i64)) sNil) fun (n, _) => ((ref01_Number n).isSome, (AV.str ((ref01_Number n).getD [])))
theorem ref01_Number_c : OcOk Tryz.prog ITryz 58 (ref01_Number_o) := ocOk_of fun vv rr hh => by
  obtain ⟨n, _⟩ := vv
  obtain ⟨hh1, hh2⟩ := Prod.mk.inj hh
  refine good_pin (p := ref01_Number_E1.pin) (good_XF mxTryz (inv0Ok Tryz.prog _) rfl ref01_Number_E1_ok Tryz.func58 rfl (by kernel_rfl) ref01_Number_E1_lk58 ((ref01_Number_x _ _ (getD_of_isSome (d := []) hh1)).trans ?_))
  exact congrArg some hh2


noncomputable def EK3_1 : Env := EK2.with 58 ref01_Number_o

theorem EK3_1_ok : OrcOk Tryz.prog ITryz EK3_1 := EK2_ok.with ref01_Number_c

/-- The environment of bitemporal/bitemporalref07.Number: its loops so far. -/

noncomputable def ref07_Number_E0 : Env := EK3_1.fn 27 0 (lsOf []) (lpsOf [])

theorem ref07_Number_E0_ok : OrcOk Tryz.prog (ITryz.at 0) ref07_Number_E0 := EK3_1_ok.fn

theorem ref07_Number_E0_lk36 : LoOk Tryz.prog (ITryz.at ref07_Number_E0.pin) ref07_Number_E0 (Tryz.f36.body.getD .skip) := loOk_nil (by kernel_rfl)

/- 33 nodes -/
noncomputable def ref07_Number_v0 (n : Int) : List UInt8 := [(45 : UInt8)] ++ (ref01_Number (IntKind.i64.wrap ((0 : Int) - IntKind.i64.wrap (n.tdiv (10 : Int))))).getD []
noncomputable def ref07_Number_t {T : Type} (n : Int) (δ : T) (κ : List UInt8 → T) : T := br (decide (n < (0 : Int))) (br (decide (n > (-10 : Int))) (br ((ref01_Number (IntKind.i64.wrap ((0 : Int) - n))).isSome) (br (decide ((1 : Nat) + ((ref01_Number (IntKind.i64.wrap ((0 : Int) - n))).getD []).length ≤ (4611686018427387904 : Nat))) (κ ([(45 : UInt8)] ++ (ref01_Number (IntKind.i64.wrap ((0 : Int) - n))).getD [])) (δ)) (δ)) (br (decide (n < (0 : Int))) (br ((ref01_Number (IntKind.i64.wrap ((0 : Int) - IntKind.i64.wrap (n.tdiv (10 : Int))))).isSome) (br (decide ((1 : Nat) + ((ref01_Number (IntKind.i64.wrap ((0 : Int) - IntKind.i64.wrap (n.tdiv (10 : Int))))).getD []).length ≤ (4611686018427387904 : Nat))) (br ((ref01_Number (IntKind.i64.wrap ((0 : Int) - n.tmod (10 : Int)))).isSome) (br (decide ((ref07_Number_v0 n).length + ((ref01_Number (IntKind.i64.wrap ((0 : Int) - n.tmod (10 : Int)))).getD []).length ≤ (4611686018427387904 : Nat))) (κ (ref07_Number_v0 n ++ (ref01_Number (IntKind.i64.wrap ((0 : Int) - n.tmod (10 : Int)))).getD [])) (δ)) (δ)) (δ)) (δ)) (br ((ref01_Number n).isSome) (κ ((ref01_Number n).getD [])) (δ)))) (br (decide (n < (0 : Int))) (br ((ref01_Number (IntKind.i64.wrap ((0 : Int) - IntKind.i64.wrap (n.tdiv (10 : Int))))).isSome) (br (decide ((1 : Nat) + ((ref01_Number (IntKind.i64.wrap ((0 : Int) - IntKind.i64.wrap (n.tdiv (10 : Int))))).getD []).length ≤ (4611686018427387904 : Nat))) (br ((ref01_Number (IntKind.i64.wrap ((0 : Int) - n.tmod (10 : Int)))).isSome) (br (decide ((ref07_Number_v0 n).length + ((ref01_Number (IntKind.i64.wrap ((0 : Int) - n.tmod (10 : Int)))).getD []).length ≤ (4611686018427387904 : Nat))) (κ (ref07_Number_v0 n ++ (ref01_Number (IntKind.i64.wrap ((0 : Int) - n.tmod (10 : Int)))).getD [])) (δ)) (δ)) (δ)) (δ)) (br ((ref01_Number n).isSome) (κ ((ref01_Number n).getD [])) (δ)))
noncomputable def ref07_Number (n : Int) : Option (List UInt8) := ref07_Number_t n none some
theorem ref07_Number_x (n : Int) : Enc (fun (p : List UInt8) => ((AV.str p) : AV)) (ref07_Number n) (XF Tryz.prog ref07_Number_E0 Tryz.f36 (Tryz.f36.body.getD .skip) [AV.int IntKind.i64 n]) := by
  have h : XF Tryz.prog ref07_Number_E0 Tryz.f36 (Tryz.f36.body.getD .skip) [AV.int IntKind.i64 n] = ref07_Number_t n none (fun (p : List UInt8) => some ((AV.str p) : AV)) := by kernel_rfl
  rw [h]; unfold ref07_Number ref07_Number_t; repeat' (first | exact Enc.none | exact Enc.some rfl | refine Enc.br ?_ ?_)
noncomputable def ref07_Number_o : List AV → Option (Bool × AV) := ocOf (sCons (sEq (pInt IntKind.i64)) sNil) fun (n, _) => ((ref07_Number n).isSome, (AV.str ((ref07_Number n).getD [])))
theorem ref07_Number_c : OcOk Tryz.prog ITryz 36 (ref07_Number_o) := ocOk_of fun vv rr hh => by
  obtain ⟨n, _⟩ := vv
  obtain ⟨hh1, hh2⟩ := Prod.mk.inj hh
  refine good_pin (p := ref07_Number_E0.pin) (good_XF mxTryz (inv0Ok Tryz.prog _) rfl ref07_Number_E0_ok Tryz.func36 rfl (by kernel_rfl) ref07_Number_E0_lk36 ((ref07_Number_x _ _ (getD_of_isSome (d := []) hh1)).trans ?_))
  exact congrArg some hh2


noncomputable def EK3_2 : Env := EK3_1.with 36 ref07_Number_o

theorem EK3_2_ok : OrcOk Tryz.prog ITryz EK3_2 := EK3_1_ok.with ref07_Number_c

/-- The environment of bitemporal/bitemporalref55.violated: its loops so far. -/

noncomputable def ref55_violated_E0 : Env := EK3_2.fn 24 0 (lsOf []) (lpsOf [])

theorem ref55_violated_E0_ok : OrcOk Tryz.prog (ITryz.at 0) ref55_violated_E0 := EK3_2_ok.fn

theorem ref55_violated_E0_lk45 : LoOk Tryz.prog (ITryz.at ref55_violated_E0.pin) ref55_violated_E0 (Tryz.f45.body.getD .skip) := loOk_nil (by kernel_rfl)

/- 17 nodes -/
noncomputable def ref55_violated_v0 (v_ix : Int) : List UInt8 := (ref07_Number (IntKind.i64.wrap (v_ix + (1 : Int)))).getD []
noncomputable def ref55_violated_t {T : Type} (v_k : Int) (v_tb : List UInt8) (v_ix : Int) (v_r : List AV) (v_f : Int) (v_t : Int) (δ : T) (κ : List UInt8 → T) : T := br ((ref07_Number (IntKind.i64.wrap (v_ix + (1 : Int)))).isSome) (br (v_k == (1 : Int)) (br (decide ((19 : Nat) + (ref55_violated_v0 v_ix).length ≤ (4611686018427387904 : Nat))) (κ ([(110 : UInt8), (111 : UInt8), (116 : UInt8), (32 : UInt8), (110 : UInt8), (117 : UInt8), (108 : UInt8), (108 : UInt8), (32 : UInt8), (111 : UInt8), (102 : UInt8), (32 : UInt8), (99 : UInt8), (111 : UInt8), (108 : UInt8), (117 : UInt8), (109 : UInt8), (110 : UInt8), (32 : UInt8)] ++ ref55_violated_v0 v_ix)) (δ)) (br (v_k == (2 : Int)) (κ ([(107 : UInt8), (101 : UInt8), (121 : UInt8)])) (br (v_k == (3 : Int)) (br (decide ((12 : Nat) + (ref55_violated_v0 v_ix).length ≤ (4611686018427387904 : Nat))) (κ ([(102 : UInt8), (111 : UInt8), (114 : UInt8), (101 : UInt8), (105 : UInt8), (103 : UInt8), (110 : UInt8), (32 : UInt8), (107 : UInt8), (101 : UInt8), (121 : UInt8), (32 : UInt8)] ++ ref55_violated_v0 v_ix)) (δ)) (br (v_k == (4 : Int)) (br (decide ((6 : Nat) + (ref55_violated_v0 v_ix).length ≤ (4611686018427387904 : Nat))) (κ ([(99 : UInt8), (104 : UInt8), (101 : UInt8), (99 : UInt8), (107 : UInt8), (32 : UInt8)] ++ ref55_violated_v0 v_ix)) (δ)) (κ ([(117 : UInt8), (110 : UInt8), (107 : UInt8), (110 : UInt8), (111 : UInt8), (119 : UInt8), (110 : UInt8)])))))) (δ)
noncomputable def ref55_violated (v_k : Int) (v_tb : List UInt8) (v_ix : Int) (v_r : List AV) (v_f : Int) (v_t : Int) : Option (List UInt8) := ref55_violated_t v_k v_tb v_ix v_r v_f v_t none some
theorem ref55_violated_x (v_k : Int) (v_tb : List UInt8) (v_ix : Int) (v_r : List AV) (v_f : Int) (v_t : Int) : Enc (fun (p : List UInt8) => ((AV.str p) : AV)) (ref55_violated v_k v_tb v_ix v_r v_f v_t) (XF Tryz.prog ref55_violated_E0 Tryz.f45 (Tryz.f45.body.getD .skip) [AV.agg [AV.int IntKind.i64 v_k, AV.str v_tb, AV.int IntKind.i64 v_ix, AV.list (3 : Nat) v_r, AV.int IntKind.i64 v_f, AV.int IntKind.i64 v_t]]) := by
  have h : XF Tryz.prog ref55_violated_E0 Tryz.f45 (Tryz.f45.body.getD .skip) [AV.agg [AV.int IntKind.i64 v_k, AV.str v_tb, AV.int IntKind.i64 v_ix, AV.list (3 : Nat) v_r, AV.int IntKind.i64 v_f, AV.int IntKind.i64 v_t]] = ref55_violated_t v_k v_tb v_ix v_r v_f v_t none (fun (p : List UInt8) => some ((AV.str p) : AV)) := by kernel_rfl
  rw [h]; unfold ref55_violated ref55_violated_t; repeat' (first | exact Enc.none | exact Enc.some rfl | refine Enc.br ?_ ?_)
noncomputable def ref55_violated_o : List AV → Option (Bool × AV) := ocOf (sCons (sAgg (sCons (sEq (pInt IntKind.i64)) (sCons (sEq pStr) (sCons (sEq (pInt IntKind.i64)) (sCons (sList (3 : Nat) pAny) (sCons (sEq (pInt IntKind.i64)) (sCons (sEq (pInt IntKind.i64)) sNil))))))) sNil) fun ((v_k, (v_tb, (v_ix, (v_r, (v_f, (v_t, _)))))), _) => ((ref55_violated v_k v_tb v_ix v_r v_f v_t).isSome, (AV.str ((ref55_violated v_k v_tb v_ix v_r v_f v_t).getD [])))
theorem ref55_violated_c : OcOk Tryz.prog ITryz 45 (ref55_violated_o) := ocOk_of fun vv rr hh => by
  obtain ⟨⟨v_k, ⟨v_tb, ⟨v_ix, ⟨v_r, ⟨v_f, ⟨v_t, _⟩⟩⟩⟩⟩⟩, _⟩ := vv
  obtain ⟨hh1, hh2⟩ := Prod.mk.inj hh
  refine good_pin (p := ref55_violated_E0.pin) (good_XF mxTryz (inv0Ok Tryz.prog _) rfl ref55_violated_E0_ok Tryz.func45 rfl (by kernel_rfl) ref55_violated_E0_lk45 ((ref55_violated_x _ _ _ _ _ _ _ (getD_of_isSome (d := []) hh1)).trans ?_))
  exact congrArg some hh2


noncomputable def EK3_3 : Env := EK3_2.with 45 ref55_violated_o

theorem EK3_3_ok : OrcOk Tryz.prog ITryz EK3_3 := EK3_2_ok.with ref55_violated_c

/-- The environment of bitemporal/bitemporalref07.Printable: its loops so far. -/

noncomputable def ref07_Printable_E0 : Env := EK3_3.fn 20 0 (lsOf []) (lpsOf [])

theorem ref07_Printable_E0_ok : OrcOk Tryz.prog (ITryz.at 0) ref07_Printable_E0 := EK3_3_ok.fn

theorem ref07_Printable_E0_lk83_0 : LoOk Tryz.prog (ITryz.at ref07_Printable_E0.pin) ref07_Printable_E0 (loopAt Tryz.f83 0) := loOk_nil (by kernel_rfl)

/- 11 nodes -/
noncomputable def ref07_Printable_l0_t {T : Type} (s0 : List UInt8) (i : Int) (δ : T) (κl : (Int) → T) (κr : (Bool × (Bool) × (Unit)) → T) : T := br (decide (i < (↑s0.length : Int))) (br (decide ((0 : Int) ≤ i) && decide (i < (↑s0.length : Int))) (br (decide ((↑(s0.getD i.toNat (0 : UInt8)).toNat : Int) < (32 : Int))) (κr (true, (false), ())) (br (decide ((0 : Int) ≤ i) && decide (i < (↑s0.length : Int))) (br (decide ((↑(s0.getD i.toNat (0 : UInt8)).toNat : Int) > (126 : Int))) (κr (true, (false), ())) (κl (IntKind.i64.wrap (i + (1 : Int))))) (δ))) (δ)) (κr (false, false, ()))
noncomputable def ref07_Printable_l0_step (s0 : List UInt8) : (Int) → Option ((Int) ⊕ (Bool × (Bool) × (Unit))) := fun (i) => ref07_Printable_l0_t s0 i none (fun s => some (.inl s)) (fun p => some (.inr p))
noncomputable def ref07_Printable_l0_L (s0 : List UInt8) : (Int) → List AV × List Box := fun (i) => ([AV.str s0, AV.int IntKind.i64 i], [])
noncomputable def ref07_Printable_l0_out (s0 : List UInt8) : (Bool × (Bool) × (Unit)) → LR := fun p => (.node p.1 (.leaf (Exit.ret) [AV.bool p.2.1] []) (.leaf (Exit.exit (0 : Nat)) [AV.top] []))
noncomputable abbrev ref07_Printable_l0_X (vals : List AV) (H : List Box) := XR Tryz.prog ref07_Printable_E0 [0, 3] [2] [] (loopAt Tryz.f83 0) vals H
theorem ref07_Printable_l0_r (s0 : List UInt8) (i : Int) : Enc (encR (ref07_Printable_l0_L s0) (ref07_Printable_l0_out s0)) (ref07_Printable_l0_step s0 i) (ref07_Printable_l0_X (ref07_Printable_l0_L s0 i).1 (ref07_Printable_l0_L s0 i).2) := by
  have h : ref07_Printable_l0_X (ref07_Printable_l0_L s0 i).1 (ref07_Printable_l0_L s0 i).2 = ref07_Printable_l0_t s0 i none (fun s => some (encR (ref07_Printable_l0_L s0) (ref07_Printable_l0_out s0) (.inl s))) (fun p => some (encR (ref07_Printable_l0_L s0) (ref07_Printable_l0_out s0) (.inr p))) := by kernel_rfl
  rw [h]; unfold ref07_Printable_l0_step ref07_Printable_l0_t; repeat' (first | exact Enc.none | exact Enc.some rfl | refine Enc.br ?_ ?_)
noncomputable def ref07_Printable_l0_lp : Lp := lpOf [0, 3] [2] [] (pCons pStr (pCons (pInt IntKind.i64) pNil)) pNil fun (s0, (i, _)) _ => ((Iter (ref07_Printable_l0_step s0) (i)).isSome, ref07_Printable_l0_out s0 ((Iter (ref07_Printable_l0_step s0) (i)).getD (false, false, ())))
theorem ref07_Printable_l0_lok : LoopOk Tryz.prog (ITryz.at ref07_Printable_E0.pin) ref07_Printable_E0.nt (loopAt Tryz.f83 0) ref07_Printable_l0_lp := lok_of fun vv bb rr hh => by
  obtain ⟨s0, ⟨i, _⟩⟩ := vv
  obtain ⟨hh1, rfl⟩ := Prod.mk.inj hh
  exact loop_of_XR mxTryz (inv0Ok Tryz.prog _) rfl ref07_Printable_E0_ok ref07_Printable_E0_lk83_0 (ref07_Printable_l0_L s0) (ref07_Printable_l0_out s0) (fun p => by simp only [ref07_Printable_l0_out, LR.eval]; first | (simp; done) | (repeat' split <;> simp)) (ref07_Printable_l0_r s0) (s := (i)) (getD_of_isSome hh1)


/-- The environment of bitemporal/bitemporalref07.Printable: its loops so far. -/

noncomputable def ref07_Printable_E1 : Env := EK3_3.fn 20 0 (lsOf []) (lpsOf [(2, ref07_Printable_l0_lp)])

theorem ref07_Printable_E1_ok : OrcOk Tryz.prog (ITryz.at 0) ref07_Printable_E1 := EK3_3_ok.fn

theorem ref07_Printable_E1_lk83 : LoOk Tryz.prog (ITryz.at ref07_Printable_E1.pin) ref07_Printable_E1 (Tryz.f83.body.getD .skip) := loOk_all (ls := [loopAt Tryz.f83 0]) (by kernel_rfl) (fun l hl lp hs => by
  simp only [List.mem_cons, List.not_mem_nil, or_false] at hl
  rcases hl with rfl
  · rw [show ref07_Printable_E1.lp (codeId (loopAt Tryz.f83 0)) = some ref07_Printable_l0_lp by kernel_rfl] at hs
    simp only [Option.some.injEq] at hs; subst hs; exact ref07_Printable_l0_lok)

/- 5 nodes -/
noncomputable def ref07_Printable_t {T : Type} (s0 : List UInt8) (δ : T) (κ : Bool → T) : T := br ((Iter (ref07_Printable_l0_step s0) (0 : Int)).isSome) (br (((Iter (ref07_Printable_l0_step s0) (0 : Int)).getD (false, false, ())).fst) (κ (((Iter (ref07_Printable_l0_step s0) (0 : Int)).getD (false, false, ())).snd.fst)) (κ (true))) (δ)
noncomputable def ref07_Printable (s0 : List UInt8) : Option (Bool) := ref07_Printable_t s0 none some
theorem ref07_Printable_x (s0 : List UInt8) : Enc (fun (p : Bool) => ((AV.bool p) : AV)) (ref07_Printable s0) (XF Tryz.prog ref07_Printable_E1 Tryz.f83 (Tryz.f83.body.getD .skip) [AV.str s0]) := by
  have h : XF Tryz.prog ref07_Printable_E1 Tryz.f83 (Tryz.f83.body.getD .skip) [AV.str s0] = ref07_Printable_t s0 none (fun (p : Bool) => some ((AV.bool p) : AV)) := by kernel_rfl
  rw [h]; unfold ref07_Printable ref07_Printable_t; repeat' (first | exact Enc.none | exact Enc.some rfl | refine Enc.br ?_ ?_)
noncomputable def ref07_Printable_o : List AV → Option (Bool × AV) := ocOf (sCons (sEq pStr) sNil) fun (s0, _) => ((ref07_Printable s0).isSome, (AV.bool ((ref07_Printable s0).getD false)))
theorem ref07_Printable_c : OcOk Tryz.prog ITryz 83 (ref07_Printable_o) := ocOk_of fun vv rr hh => by
  obtain ⟨s0, _⟩ := vv
  obtain ⟨hh1, hh2⟩ := Prod.mk.inj hh
  refine good_pin (p := ref07_Printable_E1.pin) (good_XF mxTryz (inv0Ok Tryz.prog _) rfl ref07_Printable_E1_ok Tryz.func83 rfl (by kernel_rfl) ref07_Printable_E1_lk83 ((ref07_Printable_x _ _ (getD_of_isSome (d := false) hh1)).trans ?_))
  exact congrArg some hh2


noncomputable def EK3_4 : Env := EK3_3.with 83 ref07_Printable_o

theorem EK3_4_ok : OrcOk Tryz.prog ITryz EK3_4 := EK3_3_ok.with ref07_Printable_c

/-- The environment of bitemporal/bitemporalref07.Valid: its loops so far. -/

noncomputable def ref07_Valid_E0 : Env := EK3_4.fn 61 0 (lsOf []) (lpsOf [])

theorem ref07_Valid_E0_ok : OrcOk Tryz.prog (ITryz.at 0) ref07_Valid_E0 := EK3_4_ok.fn

theorem ref07_Valid_E0_lk68 : LoOk Tryz.prog (ITryz.at ref07_Valid_E0.pin) ref07_Valid_E0 (Tryz.f68.body.getD .skip) := loOk_nil (by kernel_rfl)

/- 25 nodes -/
noncomputable def ref07_Valid_t {T : Type} (v_k : Int) (v_i : Int) (v_t : List UInt8) (δ : T) (κ : Bool → T) : T := br (v_k == (0 : Int)) (br (v_i == (0 : Int)) (κ (v_t == [])) (κ (false))) (br (v_k == (1 : Int)) (br (v_t == []) (br (decide (v_i ≥ (-1125899906842624 : Int))) (κ (decide (v_i ≤ (1125899906842624 : Int)))) (κ (false))) (κ (false))) (br (v_k == (2 : Int)) (br (v_i == (0 : Int)) (br (decide ((↑v_t.length : Int) ≤ (200 : Int))) (br ((ref07_Printable v_t).isSome) (κ ((ref07_Printable v_t).getD false)) (δ)) (κ (false))) (κ (false))) (br (v_k == (3 : Int)) (br (v_t == []) (br (v_i == (0 : Int)) (κ (true)) (κ (v_i == (1 : Int)))) (κ (false))) (κ (false)))))
noncomputable def ref07_Valid (v_k : Int) (v_i : Int) (v_t : List UInt8) : Option (Bool) := ref07_Valid_t v_k v_i v_t none some
theorem ref07_Valid_x (v_k : Int) (v_i : Int) (v_t : List UInt8) : Enc (fun (p : Bool) => ((AV.bool p) : AV)) (ref07_Valid v_k v_i v_t) (XF Tryz.prog ref07_Valid_E0 Tryz.f68 (Tryz.f68.body.getD .skip) [AV.agg [AV.int IntKind.i64 v_k, AV.int IntKind.i64 v_i, AV.str v_t]]) := by
  have h : XF Tryz.prog ref07_Valid_E0 Tryz.f68 (Tryz.f68.body.getD .skip) [AV.agg [AV.int IntKind.i64 v_k, AV.int IntKind.i64 v_i, AV.str v_t]] = ref07_Valid_t v_k v_i v_t none (fun (p : Bool) => some ((AV.bool p) : AV)) := by kernel_rfl
  rw [h]; unfold ref07_Valid ref07_Valid_t; repeat' (first | exact Enc.none | exact Enc.some rfl | refine Enc.br ?_ ?_)
noncomputable def ref07_Valid_o : List AV → Option (Bool × AV) := ocOf (sCons (sAgg (sCons (sEq (pInt IntKind.i64)) (sCons (sEq (pInt IntKind.i64)) (sCons (sEq pStr) sNil)))) sNil) fun ((v_k, (v_i, (v_t, _))), _) => ((ref07_Valid v_k v_i v_t).isSome, (AV.bool ((ref07_Valid v_k v_i v_t).getD false)))
theorem ref07_Valid_c : OcOk Tryz.prog ITryz 68 (ref07_Valid_o) := ocOk_of fun vv rr hh => by
  obtain ⟨⟨v_k, ⟨v_i, ⟨v_t, _⟩⟩⟩, _⟩ := vv
  obtain ⟨hh1, hh2⟩ := Prod.mk.inj hh
  refine good_pin (p := ref07_Valid_E0.pin) (good_XF mxTryz (inv0Ok Tryz.prog _) rfl ref07_Valid_E0_ok Tryz.func68 rfl (by kernel_rfl) ref07_Valid_E0_lk68 ((ref07_Valid_x _ _ _ _ (getD_of_isSome (d := false) hh1)).trans ?_))
  exact congrArg some hh2


noncomputable def EK3_5 : Env := EK3_4.with 68 ref07_Valid_o

theorem EK3_5_ok : OrcOk Tryz.prog ITryz EK3_5 := EK3_4_ok.with ref07_Valid_c

/-- The environment of bitemporal/bitemporalref07.Null: its loops so far. -/

noncomputable def ref07_Null_E0 : Env := EK3_5.fn 2 0 (lsOf []) (lpsOf [])

theorem ref07_Null_E0_ok : OrcOk Tryz.prog (ITryz.at 0) ref07_Null_E0 := EK3_5_ok.fn

theorem ref07_Null_E0_lk69 : LoOk Tryz.prog (ITryz.at ref07_Null_E0.pin) ref07_Null_E0 (Tryz.f69.body.getD .skip) := loOk_nil (by kernel_rfl)

/- 1 nodes -/
noncomputable def ref07_Null : Int × Int × List UInt8 := (((0 : Int), (0 : Int), []))
noncomputable def ref07_Null_pre : Bool := true
noncomputable def ref07_Null_t {T : Type} (δ : T) (κ : Int × Int × List UInt8 → T) : T := κ ((0 : Int), (0 : Int), [])
theorem ref07_Null_x : Pre (ref07_Null_pre) (XF Tryz.prog ref07_Null_E0 Tryz.f69 (Tryz.f69.body.getD .skip) []) (AV.agg [AV.int IntKind.i64 ref07_Null.1, AV.int IntKind.i64 ref07_Null.2.1, AV.str ref07_Null.2.2]) := by
  have h : XF Tryz.prog ref07_Null_E0 Tryz.f69 (Tryz.f69.body.getD .skip) [] = ref07_Null_t none (fun (p : Int × Int × List UInt8) => some ((AV.agg [AV.int IntKind.i64 p.1, AV.int IntKind.i64 p.2.1, AV.str p.2.2]) : AV)) := by kernel_rfl
  rw [h]; unfold ref07_Null ref07_Null_pre ref07_Null_t; repeat' (first | exact Pre.none | exact Pre.tt rfl | exact Pre.some rfl | refine Pre.l ?_ | refine Pre.r ?_ | refine Pre.br (f := fun (p : Int × Int × List UInt8) => ((AV.agg [AV.int IntKind.i64 p.1, AV.int IntKind.i64 p.2.1, AV.str p.2.2]) : AV)) ?_ ?_ | refine Pre.brt (f := fun (p : Int × Int × List UInt8) => ((AV.agg [AV.int IntKind.i64 p.1, AV.int IntKind.i64 p.2.1, AV.str p.2.2]) : AV)) ?_ ?_)
noncomputable def ref07_Null_o : List AV → Option (Bool × AV) := ocOf sNil fun _ => (true, (AV.agg [AV.int IntKind.i64 ref07_Null.1, AV.int IntKind.i64 ref07_Null.2.1, AV.str ref07_Null.2.2]))
theorem ref07_Null_c : OcOk Tryz.prog ITryz 69 (ref07_Null_o) := ocOk_of fun vv rr hh => by
  obtain ⟨hh1, hh2⟩ := Prod.mk.inj hh
  refine good_pin (p := ref07_Null_E0.pin) (good_XF mxTryz (inv0Ok Tryz.prog _) rfl ref07_Null_E0_ok Tryz.func69 rfl (by kernel_rfl) ref07_Null_E0_lk69 ((Pre.get (ref07_Null_x) rfl).trans ?_))
  exact congrArg some hh2


noncomputable def EK3_6 : Env := EK3_5.with 69 ref07_Null_o

theorem EK3_6_ok : OrcOk Tryz.prog ITryz EK3_6 := EK3_5_ok.with ref07_Null_c

/-- The environment of bitemporal/bitemporalref07.Bool: its loops so far. -/

noncomputable def ref07_Bool_E0 : Env := EK3_6.fn 6 0 (lsOf []) (lpsOf [])

theorem ref07_Bool_E0_ok : OrcOk Tryz.prog (ITryz.at 0) ref07_Bool_E0 := EK3_6_ok.fn

theorem ref07_Bool_E0_lk77 : LoOk Tryz.prog (ITryz.at ref07_Bool_E0.pin) ref07_Bool_E0 (Tryz.f77.body.getD .skip) := loOk_nil (by kernel_rfl)

/- 3 nodes -/
noncomputable def ref07_Bool (b : Bool) : Int × Int × List UInt8 := (br (b) (((3 : Int), (1 : Int), [])) (((3 : Int), (0 : Int), [])))
noncomputable def ref07_Bool_pre (b : Bool) : Bool := true
noncomputable def ref07_Bool_t {T : Type} (b : Bool) (δ : T) (κ : Int × Int × List UInt8 → T) : T := br (b) (κ ((3 : Int), (1 : Int), [])) (κ ((3 : Int), (0 : Int), []))
theorem ref07_Bool_x (b : Bool) : Pre (ref07_Bool_pre b) (XF Tryz.prog ref07_Bool_E0 Tryz.f77 (Tryz.f77.body.getD .skip) [AV.bool b]) (AV.agg [AV.int IntKind.i64 (ref07_Bool b).1, AV.int IntKind.i64 (ref07_Bool b).2.1, AV.str (ref07_Bool b).2.2]) := by
  have h : XF Tryz.prog ref07_Bool_E0 Tryz.f77 (Tryz.f77.body.getD .skip) [AV.bool b] = ref07_Bool_t b none (fun (p : Int × Int × List UInt8) => some ((AV.agg [AV.int IntKind.i64 p.1, AV.int IntKind.i64 p.2.1, AV.str p.2.2]) : AV)) := by kernel_rfl
  rw [h]; unfold ref07_Bool ref07_Bool_pre ref07_Bool_t; repeat' (first | exact Pre.none | exact Pre.tt rfl | exact Pre.some rfl | refine Pre.l ?_ | refine Pre.r ?_ | refine Pre.br (f := fun (p : Int × Int × List UInt8) => ((AV.agg [AV.int IntKind.i64 p.1, AV.int IntKind.i64 p.2.1, AV.str p.2.2]) : AV)) ?_ ?_ | refine Pre.brt (f := fun (p : Int × Int × List UInt8) => ((AV.agg [AV.int IntKind.i64 p.1, AV.int IntKind.i64 p.2.1, AV.str p.2.2]) : AV)) ?_ ?_)
noncomputable def ref07_Bool_o : List AV → Option (Bool × AV) := ocOf (sCons (sEq pBool) sNil) fun (b, _) => (true, (AV.agg [AV.int IntKind.i64 (ref07_Bool b).1, AV.int IntKind.i64 (ref07_Bool b).2.1, AV.str (ref07_Bool b).2.2]))
theorem ref07_Bool_c : OcOk Tryz.prog ITryz 77 (ref07_Bool_o) := ocOk_of fun vv rr hh => by
  obtain ⟨b, _⟩ := vv
  obtain ⟨hh1, hh2⟩ := Prod.mk.inj hh
  refine good_pin (p := ref07_Bool_E0.pin) (good_XF mxTryz (inv0Ok Tryz.prog _) rfl ref07_Bool_E0_ok Tryz.func77 rfl (by kernel_rfl) ref07_Bool_E0_lk77 ((Pre.get (ref07_Bool_x _) rfl).trans ?_))
  exact congrArg some hh2


noncomputable def EK3_7 : Env := EK3_6.with 77 ref07_Bool_o

theorem EK3_7_ok : OrcOk Tryz.prog ITryz EK3_7 := EK3_6_ok.with ref07_Bool_c

/-- The environment of bitemporal/bitemporalref07.Quote: its loops so far. -/

noncomputable def ref07_Quote_E0 : Env := EK3_7.fn 26 0 (lsOf []) (lpsOf [])

theorem ref07_Quote_E0_ok : OrcOk Tryz.prog (ITryz.at 0) ref07_Quote_E0 := EK3_7_ok.fn

theorem ref07_Quote_E0_lk78_0 : LoOk Tryz.prog (ITryz.at ref07_Quote_E0.pin) ref07_Quote_E0 (loopAt Tryz.f78 0) := loOk_nil (by kernel_rfl)

/- 17 nodes -/
noncomputable def ref07_Quote_l0_v0 (s0 : List UInt8) (i : Int) : Bool := decide ((0 : Int) ≤ IntKind.i64.wrap (i + (1 : Int))) && decide (IntKind.i64.wrap (i + (1 : Int)) ≤ (↑s0.length : Int)) && (decide ((0 : Int) ≤ i) && decide (i ≤ (↑(IntKind.i64.wrap (i + (1 : Int))).toNat : Int)))
noncomputable def ref07_Quote_l0_v1 (s0 : List UInt8) (i : Int) : List UInt8 := List.take ((IntKind.i64.wrap (i + (1 : Int))).toNat - i.toNat) (List.drop i.toNat s0)
noncomputable def ref07_Quote_l0_t {T : Type} (s0 : List UInt8) (out : List UInt8) (i : Int) (δ : T) (κl : (List UInt8 × Int) → T) (κr : (List UInt8) → T) : T := br (decide (i < (↑s0.length : Int))) (br (decide ((0 : Int) ≤ i) && decide (i < (↑s0.length : Int))) (br ((↑(s0.getD i.toNat (0 : UInt8)).toNat : Int) == (39 : Int)) (br (decide (out.length + (1 : Nat) ≤ (4611686018427387904 : Nat))) (br (ref07_Quote_l0_v0 s0 i) (br (decide ((out ++ [(39 : UInt8)]).length + (ref07_Quote_l0_v1 s0 i).length ≤ (4611686018427387904 : Nat))) (κl (out ++ [(39 : UInt8)] ++ ref07_Quote_l0_v1 s0 i, IntKind.i64.wrap (i + (1 : Int)))) (δ)) (δ)) (δ)) (br (ref07_Quote_l0_v0 s0 i) (br (decide (out.length + (ref07_Quote_l0_v1 s0 i).length ≤ (4611686018427387904 : Nat))) (κl (out ++ ref07_Quote_l0_v1 s0 i, IntKind.i64.wrap (i + (1 : Int)))) (δ)) (δ))) (δ)) (κr (out))
noncomputable def ref07_Quote_l0_step (s0 : List UInt8) : (List UInt8 × Int) → Option ((List UInt8 × Int) ⊕ (List UInt8)) := fun (out, i) => ref07_Quote_l0_t s0 out i none (fun s => some (.inl s)) (fun p => some (.inr p))
noncomputable def ref07_Quote_l0_L (s0 : List UInt8) : (List UInt8 × Int) → List AV × List Box := fun (out, i) => ([AV.str s0, AV.str out, AV.int IntKind.i64 i], [])
noncomputable def ref07_Quote_l0_out (s0 : List UInt8) : (List UInt8) → LR := fun p => (.leaf (Exit.exit (0 : Nat)) [AV.str p] [])
noncomputable abbrev ref07_Quote_l0_X (vals : List AV) (H : List Box) := XR Tryz.prog ref07_Quote_E0 [0, 3, 4] [3] [] (loopAt Tryz.f78 0) vals H
theorem ref07_Quote_l0_r (s0 : List UInt8) (s : List UInt8 × Int) : Enc (encR (ref07_Quote_l0_L s0) (ref07_Quote_l0_out s0)) (ref07_Quote_l0_step s0 s) (ref07_Quote_l0_X (ref07_Quote_l0_L s0 s).1 (ref07_Quote_l0_L s0 s).2) := by
  obtain ⟨out, i⟩ := s
  have h : ref07_Quote_l0_X (ref07_Quote_l0_L s0 (out, i)).1 (ref07_Quote_l0_L s0 (out, i)).2 = ref07_Quote_l0_t s0 out i none (fun s => some (encR (ref07_Quote_l0_L s0) (ref07_Quote_l0_out s0) (.inl s))) (fun p => some (encR (ref07_Quote_l0_L s0) (ref07_Quote_l0_out s0) (.inr p))) := by kernel_rfl
  rw [h]; unfold ref07_Quote_l0_step ref07_Quote_l0_t; repeat' (first | exact Enc.none | exact Enc.some rfl | refine Enc.br ?_ ?_)
noncomputable def ref07_Quote_l0_lp : Lp := lpOf [0, 3, 4] [3] [] (pCons pStr (pCons pStr (pCons (pInt IntKind.i64) pNil))) pNil fun (s0, (out, (i, _))) _ => ((Iter (ref07_Quote_l0_step s0) (out, i)).isSome, ref07_Quote_l0_out s0 ((Iter (ref07_Quote_l0_step s0) (out, i)).getD []))
theorem ref07_Quote_l0_lok : LoopOk Tryz.prog (ITryz.at ref07_Quote_E0.pin) ref07_Quote_E0.nt (loopAt Tryz.f78 0) ref07_Quote_l0_lp := lok_of fun vv bb rr hh => by
  obtain ⟨s0, ⟨out, ⟨i, _⟩⟩⟩ := vv
  obtain ⟨hh1, rfl⟩ := Prod.mk.inj hh
  exact loop_of_XR mxTryz (inv0Ok Tryz.prog _) rfl ref07_Quote_E0_ok ref07_Quote_E0_lk78_0 (ref07_Quote_l0_L s0) (ref07_Quote_l0_out s0) (fun p => by simp only [ref07_Quote_l0_out, LR.eval]; first | (simp; done) | (repeat' split <;> simp)) (ref07_Quote_l0_r s0) (s := (out, i)) (getD_of_isSome hh1)


/-- The environment of bitemporal/bitemporalref07.Quote: its loops so far. -/

noncomputable def ref07_Quote_E1 : Env := EK3_7.fn 26 0 (lsOf []) (lpsOf [(3, ref07_Quote_l0_lp)])

theorem ref07_Quote_E1_ok : OrcOk Tryz.prog (ITryz.at 0) ref07_Quote_E1 := EK3_7_ok.fn

theorem ref07_Quote_E1_lk78 : LoOk Tryz.prog (ITryz.at ref07_Quote_E1.pin) ref07_Quote_E1 (Tryz.f78.body.getD .skip) := loOk_all (ls := [loopAt Tryz.f78 0]) (by kernel_rfl) (fun l hl lp hs => by
  simp only [List.mem_cons, List.not_mem_nil, or_false] at hl
  rcases hl with rfl
  · rw [show ref07_Quote_E1.lp (codeId (loopAt Tryz.f78 0)) = some ref07_Quote_l0_lp by kernel_rfl] at hs
    simp only [Option.some.injEq] at hs; subst hs; exact ref07_Quote_l0_lok)

/- 5 nodes -/
noncomputable def ref07_Quote_t {T : Type} (s0 : List UInt8) (δ : T) (κ : List UInt8 → T) : T := br ((Iter (ref07_Quote_l0_step s0) ([(39 : UInt8)], (0 : Int))).isSome) (br (decide (((Iter (ref07_Quote_l0_step s0) ([(39 : UInt8)], (0 : Int))).getD []).length + (1 : Nat) ≤ (4611686018427387904 : Nat))) (κ ((Iter (ref07_Quote_l0_step s0) ([(39 : UInt8)], (0 : Int))).getD [] ++ [(39 : UInt8)])) (δ)) (δ)
noncomputable def ref07_Quote (s0 : List UInt8) : Option (List UInt8) := ref07_Quote_t s0 none some
theorem ref07_Quote_x (s0 : List UInt8) : Enc (fun (p : List UInt8) => ((AV.str p) : AV)) (ref07_Quote s0) (XF Tryz.prog ref07_Quote_E1 Tryz.f78 (Tryz.f78.body.getD .skip) [AV.str s0]) := by
  have h : XF Tryz.prog ref07_Quote_E1 Tryz.f78 (Tryz.f78.body.getD .skip) [AV.str s0] = ref07_Quote_t s0 none (fun (p : List UInt8) => some ((AV.str p) : AV)) := by kernel_rfl
  rw [h]; unfold ref07_Quote ref07_Quote_t; repeat' (first | exact Enc.none | exact Enc.some rfl | refine Enc.br ?_ ?_)
noncomputable def ref07_Quote_o : List AV → Option (Bool × AV) := ocOf (sCons (sEq pStr) sNil) fun (s0, _) => ((ref07_Quote s0).isSome, (AV.str ((ref07_Quote s0).getD [])))
theorem ref07_Quote_c : OcOk Tryz.prog ITryz 78 (ref07_Quote_o) := ocOk_of fun vv rr hh => by
  obtain ⟨s0, _⟩ := vv
  obtain ⟨hh1, hh2⟩ := Prod.mk.inj hh
  refine good_pin (p := ref07_Quote_E1.pin) (good_XF mxTryz (inv0Ok Tryz.prog _) rfl ref07_Quote_E1_ok Tryz.func78 rfl (by kernel_rfl) ref07_Quote_E1_lk78 ((ref07_Quote_x _ _ (getD_of_isSome (d := []) hh1)).trans ?_))
  exact congrArg some hh2


noncomputable def EK3_8 : Env := EK3_7.with 78 ref07_Quote_o

theorem EK3_8_ok : OrcOk Tryz.prog ITryz EK3_8 := EK3_7_ok.with ref07_Quote_c

/-- The environment of bitemporal/bitemporalref07.Literal: its loops so far. -/

noncomputable def ref07_Literal_E0 : Env := EK3_8.fn 25 0 (lsOf []) (lpsOf [])

theorem ref07_Literal_E0_ok : OrcOk Tryz.prog (ITryz.at 0) ref07_Literal_E0 := EK3_8_ok.fn

theorem ref07_Literal_E0_lk57 : LoOk Tryz.prog (ITryz.at ref07_Literal_E0.pin) ref07_Literal_E0 (Tryz.f57.body.getD .skip) := loOk_nil (by kernel_rfl)

/- 17 nodes -/
noncomputable def ref07_Literal_t {T : Type} (v_k : Int) (v_i : Int) (v_t : List UInt8) (δ : T) (κ : List UInt8 → T) : T := br ((ref07_Valid v_k v_i v_t).isSome) (br (!(ref07_Valid v_k v_i v_t).getD false) (κ ([])) (br (v_k == (0 : Int) && (v_i == (0 : Int) && (v_t == [] && true))) (κ ([(78 : UInt8), (85 : UInt8), (76 : UInt8), (76 : UInt8)])) (br (v_k == (3 : Int) && (v_i == (1 : Int) && (v_t == [] && true))) (κ ([(84 : UInt8), (82 : UInt8), (85 : UInt8), (69 : UInt8)])) (br (v_k == (3 : Int) && (v_i == (0 : Int) && (v_t == [] && true))) (κ ([(70 : UInt8), (65 : UInt8), (76 : UInt8), (83 : UInt8), (69 : UInt8)])) (br (v_k == (1 : Int)) (br ((ref07_Number v_i).isSome) (κ ((ref07_Number v_i).getD [])) (δ)) (br ((ref07_Quote v_t).isSome) (κ ((ref07_Quote v_t).getD [])) (δ))))))) (δ)
noncomputable def ref07_Literal (v_k : Int) (v_i : Int) (v_t : List UInt8) : Option (List UInt8) := ref07_Literal_t v_k v_i v_t none some
theorem ref07_Literal_x (v_k : Int) (v_i : Int) (v_t : List UInt8) : Enc (fun (p : List UInt8) => ((AV.str p) : AV)) (ref07_Literal v_k v_i v_t) (XF Tryz.prog ref07_Literal_E0 Tryz.f57 (Tryz.f57.body.getD .skip) [AV.agg [AV.int IntKind.i64 v_k, AV.int IntKind.i64 v_i, AV.str v_t]]) := by
  have h : XF Tryz.prog ref07_Literal_E0 Tryz.f57 (Tryz.f57.body.getD .skip) [AV.agg [AV.int IntKind.i64 v_k, AV.int IntKind.i64 v_i, AV.str v_t]] = ref07_Literal_t v_k v_i v_t none (fun (p : List UInt8) => some ((AV.str p) : AV)) := by kernel_rfl
  rw [h]; unfold ref07_Literal ref07_Literal_t; repeat' (first | exact Enc.none | exact Enc.some rfl | refine Enc.br ?_ ?_)
noncomputable def ref07_Literal_o : List AV → Option (Bool × AV) := ocOf (sCons (sAgg (sCons (sEq (pInt IntKind.i64)) (sCons (sEq (pInt IntKind.i64)) (sCons (sEq pStr) sNil)))) sNil) fun ((v_k, (v_i, (v_t, _))), _) => ((ref07_Literal v_k v_i v_t).isSome, (AV.str ((ref07_Literal v_k v_i v_t).getD [])))
theorem ref07_Literal_c : OcOk Tryz.prog ITryz 57 (ref07_Literal_o) := ocOk_of fun vv rr hh => by
  obtain ⟨⟨v_k, ⟨v_i, ⟨v_t, _⟩⟩⟩, _⟩ := vv
  obtain ⟨hh1, hh2⟩ := Prod.mk.inj hh
  refine good_pin (p := ref07_Literal_E0.pin) (good_XF mxTryz (inv0Ok Tryz.prog _) rfl ref07_Literal_E0_ok Tryz.func57 rfl (by kernel_rfl) ref07_Literal_E0_lk57 ((ref07_Literal_x _ _ _ _ (getD_of_isSome (d := []) hh1)).trans ?_))
  exact congrArg some hh2


noncomputable def EK3_9 : Env := EK3_8.with 57 ref07_Literal_o

theorem EK3_9_ok : OrcOk Tryz.prog ITryz EK3_9 := EK3_8_ok.with ref07_Literal_c

/-- The environment of bitemporal/bitemporalref08.Text: its loops so far. -/

noncomputable def ref08_Text_E0 : Env := EK3_9.fn 24 0 (lsOf []) (lpsOf [])

theorem ref08_Text_E0_ok : OrcOk Tryz.prog (ITryz.at 0) ref08_Text_E0 := EK3_9_ok.fn

theorem ref08_Text_E0_lk46_0 : LoOk Tryz.prog (ITryz.at ref08_Text_E0.pin) ref08_Text_E0 (loopAt Tryz.f46 0) := loOk_nil (by kernel_rfl)

/- 23 nodes -/
noncomputable def ref08_Text_l0_v1 (row : List AV) (i : Int) : Bool := decide (i.toNat < row.length) && ((row.getD i.toNat AV.top).cells.length == (3 : Nat) && hasShs [Sh.int IntKind.i64, Sh.int IntKind.i64, Sh.str] (row.getD i.toNat AV.top).cells (0 : Nat))
noncomputable def ref08_Text_l0_v3 (row : List AV) (i : Int) : Option (List UInt8) := ref07_Literal ((row.getD i.toNat AV.top).cells.getD (0 : Nat) AV.top).toInt ((row.getD i.toNat AV.top).cells.getD (1 : Nat) AV.top).toInt ((row.getD i.toNat AV.top).cells.getD (2 : Nat) AV.top).toStr
noncomputable def ref08_Text_l0_v0 (row : List AV) (i : Int) : List UInt8 := (ref08_Text_l0_v3 row i).getD []
noncomputable def ref08_Text_l0_v2 (row : List AV) (i : Int) : Bool := (ref08_Text_l0_v3 row i).isSome
noncomputable def ref08_Text_l0_t {T : Type} (row : List AV) (s0 : List UInt8) (i : Int) (δ : T) (κl : (List UInt8 × Int) → T) (κr : (List UInt8) → T) : T := br (decide (i < (↑row.length : Int))) (br (decide (i > (0 : Int))) (br (decide (s0.length + (2 : Nat) ≤ (4611686018427387904 : Nat))) (br (decide ((0 : Int) ≤ i) && decide (i < (↑row.length : Int))) (br (ref08_Text_l0_v1 row i) (br (ref08_Text_l0_v2 row i) (br (decide ((s0 ++ [(44 : UInt8), (32 : UInt8)]).length + (ref08_Text_l0_v0 row i).length ≤ (4611686018427387904 : Nat))) (κl (s0 ++ [(44 : UInt8), (32 : UInt8)] ++ ref08_Text_l0_v0 row i, IntKind.i64.wrap (i + (1 : Int)))) (δ)) (δ)) (δ)) (δ)) (δ)) (br (decide ((0 : Int) ≤ i) && decide (i < (↑row.length : Int))) (br (ref08_Text_l0_v1 row i) (br (ref08_Text_l0_v2 row i) (br (decide (s0.length + (ref08_Text_l0_v0 row i).length ≤ (4611686018427387904 : Nat))) (κl (s0 ++ ref08_Text_l0_v0 row i, IntKind.i64.wrap (i + (1 : Int)))) (δ)) (δ)) (δ)) (δ))) (κr (s0))
noncomputable def ref08_Text_l0_step (row : List AV) : (List UInt8 × Int) → Option ((List UInt8 × Int) ⊕ (List UInt8)) := fun (s0, i) => ref08_Text_l0_t row s0 i none (fun s => some (.inl s)) (fun p => some (.inr p))
noncomputable def ref08_Text_l0_L (row : List AV) : (List UInt8 × Int) → List AV × List Box := fun (s0, i) => ([AV.list (3 : Nat) row, AV.str s0, AV.int IntKind.i64 i], [])
noncomputable def ref08_Text_l0_out (row : List AV) : (List UInt8) → LR := fun p => (.leaf (Exit.exit (0 : Nat)) [AV.str p] [])
noncomputable abbrev ref08_Text_l0_X (vals : List AV) (H : List Box) := XR Tryz.prog ref08_Text_E0 [0, 3, 4] [3] [] (loopAt Tryz.f46 0) vals H
theorem ref08_Text_l0_r (row : List AV) (s : List UInt8 × Int) : Enc (encR (ref08_Text_l0_L row) (ref08_Text_l0_out row)) (ref08_Text_l0_step row s) (ref08_Text_l0_X (ref08_Text_l0_L row s).1 (ref08_Text_l0_L row s).2) := by
  obtain ⟨s0, i⟩ := s
  have h : ref08_Text_l0_X (ref08_Text_l0_L row (s0, i)).1 (ref08_Text_l0_L row (s0, i)).2 = ref08_Text_l0_t row s0 i none (fun s => some (encR (ref08_Text_l0_L row) (ref08_Text_l0_out row) (.inl s))) (fun p => some (encR (ref08_Text_l0_L row) (ref08_Text_l0_out row) (.inr p))) := by kernel_rfl
  rw [h]; unfold ref08_Text_l0_step ref08_Text_l0_t; repeat' (first | exact Enc.none | exact Enc.some rfl | refine Enc.br ?_ ?_)
noncomputable def ref08_Text_l0_lp : Lp := lpOf [0, 3, 4] [3] [] (pCons (pList (3 : Nat) pAny) (pCons pStr (pCons (pInt IntKind.i64) pNil))) pNil fun (row, (s0, (i, _))) _ => ((Iter (ref08_Text_l0_step row) (s0, i)).isSome, ref08_Text_l0_out row ((Iter (ref08_Text_l0_step row) (s0, i)).getD []))
theorem ref08_Text_l0_lok : LoopOk Tryz.prog (ITryz.at ref08_Text_E0.pin) ref08_Text_E0.nt (loopAt Tryz.f46 0) ref08_Text_l0_lp := lok_of fun vv bb rr hh => by
  obtain ⟨row, ⟨s0, ⟨i, _⟩⟩⟩ := vv
  obtain ⟨hh1, rfl⟩ := Prod.mk.inj hh
  exact loop_of_XR mxTryz (inv0Ok Tryz.prog _) rfl ref08_Text_E0_ok ref08_Text_E0_lk46_0 (ref08_Text_l0_L row) (ref08_Text_l0_out row) (fun p => by simp only [ref08_Text_l0_out, LR.eval]; first | (simp; done) | (repeat' split <;> simp)) (ref08_Text_l0_r row) (s := (s0, i)) (getD_of_isSome hh1)


/-- The environment of bitemporal/bitemporalref08.Text: its loops so far. -/

noncomputable def ref08_Text_E1 : Env := EK3_9.fn 24 0 (lsOf []) (lpsOf [(3, ref08_Text_l0_lp)])

theorem ref08_Text_E1_ok : OrcOk Tryz.prog (ITryz.at 0) ref08_Text_E1 := EK3_9_ok.fn

theorem ref08_Text_E1_lk46 : LoOk Tryz.prog (ITryz.at ref08_Text_E1.pin) ref08_Text_E1 (Tryz.f46.body.getD .skip) := loOk_all (ls := [loopAt Tryz.f46 0]) (by kernel_rfl) (fun l hl lp hs => by
  simp only [List.mem_cons, List.not_mem_nil, or_false] at hl
  rcases hl with rfl
  · rw [show ref08_Text_E1.lp (codeId (loopAt Tryz.f46 0)) = some ref08_Text_l0_lp by kernel_rfl] at hs
    simp only [Option.some.injEq] at hs; subst hs; exact ref08_Text_l0_lok)

/- 5 nodes -/
noncomputable def ref08_Text_t {T : Type} (row : List AV) (δ : T) (κ : List UInt8 → T) : T := br ((Iter (ref08_Text_l0_step row) ([(40 : UInt8)], (0 : Int))).isSome) (br (decide (((Iter (ref08_Text_l0_step row) ([(40 : UInt8)], (0 : Int))).getD []).length + (1 : Nat) ≤ (4611686018427387904 : Nat))) (κ ((Iter (ref08_Text_l0_step row) ([(40 : UInt8)], (0 : Int))).getD [] ++ [(41 : UInt8)])) (δ)) (δ)
noncomputable def ref08_Text (row : List AV) : Option (List UInt8) := ref08_Text_t row none some
theorem ref08_Text_x (row : List AV) : Enc (fun (p : List UInt8) => ((AV.str p) : AV)) (ref08_Text row) (XF Tryz.prog ref08_Text_E1 Tryz.f46 (Tryz.f46.body.getD .skip) [AV.list (3 : Nat) row]) := by
  have h : XF Tryz.prog ref08_Text_E1 Tryz.f46 (Tryz.f46.body.getD .skip) [AV.list (3 : Nat) row] = ref08_Text_t row none (fun (p : List UInt8) => some ((AV.str p) : AV)) := by kernel_rfl
  rw [h]; unfold ref08_Text ref08_Text_t; repeat' (first | exact Enc.none | exact Enc.some rfl | refine Enc.br ?_ ?_)
noncomputable def ref08_Text_o : List AV → Option (Bool × AV) := ocOf (sCons (sList (3 : Nat) pAny) sNil) fun (row, _) => ((ref08_Text row).isSome, (AV.str ((ref08_Text row).getD [])))
theorem ref08_Text_c : OcOk Tryz.prog ITryz 46 (ref08_Text_o) := ocOk_of fun vv rr hh => by
  obtain ⟨row, _⟩ := vv
  obtain ⟨hh1, hh2⟩ := Prod.mk.inj hh
  refine good_pin (p := ref08_Text_E1.pin) (good_XF mxTryz (inv0Ok Tryz.prog _) rfl ref08_Text_E1_ok Tryz.func46 rfl (by kernel_rfl) ref08_Text_E1_lk46 ((ref08_Text_x _ _ (getD_of_isSome (d := []) hh1)).trans ?_))
  exact congrArg some hh2


noncomputable def EK3_10 : Env := EK3_9.with 46 ref08_Text_o

theorem EK3_10_ok : OrcOk Tryz.prog ITryz EK3_10 := EK3_9_ok.with ref08_Text_c

/-- The environment of bitemporal/bitemporalref01.Valid: its loops so far. -/

noncomputable def ref01_Valid_E0 : Env := EK3_10.fn 18 0 (lsOf []) (lpsOf [])

theorem ref01_Valid_E0_ok : OrcOk Tryz.prog (ITryz.at 0) ref01_Valid_E0 := EK3_10_ok.fn

theorem ref01_Valid_E0_lk42 : LoOk Tryz.prog (ITryz.at ref01_Valid_E0.pin) ref01_Valid_E0 (Tryz.f42.body.getD .skip) := loOk_nil (by kernel_rfl)

/- 5 nodes -/
noncomputable def ref01_Valid (p0_f : Int) (p0_t : Int) : Bool := (br (decide (p0_f ≥ (0 : Int))) (br (decide (p0_f < p0_t)) ((decide (p0_t ≤ (1099511627776 : Int)))) ((false))) ((false)))
noncomputable def ref01_Valid_pre (p0_f : Int) (p0_t : Int) : Bool := true
noncomputable def ref01_Valid_t {T : Type} (p0_f : Int) (p0_t : Int) (δ : T) (κ : Bool → T) : T := br (decide (p0_f ≥ (0 : Int))) (br (decide (p0_f < p0_t)) (κ (decide (p0_t ≤ (1099511627776 : Int)))) (κ (false))) (κ (false))
theorem ref01_Valid_x (p0_f : Int) (p0_t : Int) : Pre (ref01_Valid_pre p0_f p0_t) (XF Tryz.prog ref01_Valid_E0 Tryz.f42 (Tryz.f42.body.getD .skip) [AV.agg [AV.int IntKind.i64 p0_f, AV.int IntKind.i64 p0_t]]) (AV.bool (ref01_Valid p0_f p0_t)) := by
  have h : XF Tryz.prog ref01_Valid_E0 Tryz.f42 (Tryz.f42.body.getD .skip) [AV.agg [AV.int IntKind.i64 p0_f, AV.int IntKind.i64 p0_t]] = ref01_Valid_t p0_f p0_t none (fun (p : Bool) => some ((AV.bool p) : AV)) := by kernel_rfl
  rw [h]; unfold ref01_Valid ref01_Valid_pre ref01_Valid_t; repeat' (first | exact Pre.none | exact Pre.tt rfl | exact Pre.some rfl | refine Pre.l ?_ | refine Pre.r ?_ | refine Pre.br (f := fun (p : Bool) => ((AV.bool p) : AV)) ?_ ?_ | refine Pre.brt (f := fun (p : Bool) => ((AV.bool p) : AV)) ?_ ?_)
noncomputable def ref01_Valid_o : List AV → Option (Bool × AV) := ocOf (sCons (sAgg (sCons (sEq (pInt IntKind.i64)) (sCons (sEq (pInt IntKind.i64)) sNil))) sNil) fun ((p0_f, (p0_t, _)), _) => (true, (AV.bool (ref01_Valid p0_f p0_t)))
theorem ref01_Valid_c : OcOk Tryz.prog ITryz 42 (ref01_Valid_o) := ocOk_of fun vv rr hh => by
  obtain ⟨⟨p0_f, ⟨p0_t, _⟩⟩, _⟩ := vv
  obtain ⟨hh1, hh2⟩ := Prod.mk.inj hh
  refine good_pin (p := ref01_Valid_E0.pin) (good_XF mxTryz (inv0Ok Tryz.prog _) rfl ref01_Valid_E0_ok Tryz.func42 rfl (by kernel_rfl) ref01_Valid_E0_lk42 ((Pre.get (ref01_Valid_x _ _) rfl).trans ?_))
  exact congrArg some hh2


noncomputable def EK3_11 : Env := EK3_10.with 42 ref01_Valid_o

theorem EK3_11_ok : OrcOk Tryz.prog ITryz EK3_11 := EK3_10_ok.with ref01_Valid_c

/-- The environment of bitemporal/bitemporalref01.Text: its loops so far. -/

noncomputable def ref01_Text_E0 : Env := EK3_11.fn 21 0 (lsOf []) (lpsOf [])

theorem ref01_Text_E0_ok : OrcOk Tryz.prog (ITryz.at 0) ref01_Text_E0 := EK3_11_ok.fn

theorem ref01_Text_E0_lk34 : LoOk Tryz.prog (ITryz.at ref01_Text_E0.pin) ref01_Text_E0 (Tryz.f34.body.getD .skip) := loOk_nil (by kernel_rfl)

/- 27 nodes -/
noncomputable def ref01_Text_v0 (p0_f : Int) (p0_t : Int) : Bool := decide (([(91 : UInt8)] ++ (ref01_Number p0_f).getD []).length + (2 : Nat) ≤ (4611686018427387904 : Nat))
noncomputable def ref01_Text_v1 (p0_f : Int) (p0_t : Int) : Bool := decide ((1 : Nat) + ((ref01_Number p0_f).getD []).length ≤ (4611686018427387904 : Nat))
noncomputable def ref01_Text_v3 (p0_f : Int) : List UInt8 := [(91 : UInt8)] ++ (ref01_Number p0_f).getD [] ++ [(44 : UInt8), (32 : UInt8)]
noncomputable def ref01_Text_v2 (p0_f : Int) : List UInt8 := ref01_Text_v3 p0_f ++ [(102 : UInt8), (111 : UInt8), (114 : UInt8), (101 : UInt8), (118 : UInt8), (101 : UInt8), (114 : UInt8)]
noncomputable def ref01_Text_t {T : Type} (p0_f : Int) (p0_t : Int) (δ : T) (κ : List UInt8 → T) : T := br (!ref01_Valid p0_f p0_t) (κ ([])) (br (decide (p0_t < (1099511627776 : Int))) (br ((ref01_Number p0_t).isSome) (br ((ref01_Number p0_f).isSome) (br (ref01_Text_v1 p0_f p0_t) (br (ref01_Text_v0 p0_f p0_t) (br (decide ((ref01_Text_v3 p0_f).length + ((ref01_Number p0_t).getD []).length ≤ (4611686018427387904 : Nat))) (br (decide ((ref01_Text_v3 p0_f ++ (ref01_Number p0_t).getD []).length + (1 : Nat) ≤ (4611686018427387904 : Nat))) (κ (ref01_Text_v3 p0_f ++ (ref01_Number p0_t).getD [] ++ [(41 : UInt8)])) (δ)) (δ)) (δ)) (δ)) (δ)) (δ)) (br ((ref01_Number p0_f).isSome) (br (ref01_Text_v1 p0_f p0_t) (br (ref01_Text_v0 p0_f p0_t) (br (decide ((ref01_Text_v3 p0_f).length + (7 : Nat) ≤ (4611686018427387904 : Nat))) (br (decide ((ref01_Text_v2 p0_f).length + (1 : Nat) ≤ (4611686018427387904 : Nat))) (κ (ref01_Text_v2 p0_f ++ [(41 : UInt8)])) (δ)) (δ)) (δ)) (δ)) (δ)))
noncomputable def ref01_Text (p0_f : Int) (p0_t : Int) : Option (List UInt8) := ref01_Text_t p0_f p0_t none some
theorem ref01_Text_x (p0_f : Int) (p0_t : Int) : Enc (fun (p : List UInt8) => ((AV.str p) : AV)) (ref01_Text p0_f p0_t) (XF Tryz.prog ref01_Text_E0 Tryz.f34 (Tryz.f34.body.getD .skip) [AV.agg [AV.int IntKind.i64 p0_f, AV.int IntKind.i64 p0_t]]) := by
  have h : XF Tryz.prog ref01_Text_E0 Tryz.f34 (Tryz.f34.body.getD .skip) [AV.agg [AV.int IntKind.i64 p0_f, AV.int IntKind.i64 p0_t]] = ref01_Text_t p0_f p0_t none (fun (p : List UInt8) => some ((AV.str p) : AV)) := by kernel_rfl
  rw [h]; unfold ref01_Text ref01_Text_t; repeat' (first | exact Enc.none | exact Enc.some rfl | refine Enc.br ?_ ?_)
noncomputable def ref01_Text_o : List AV → Option (Bool × AV) := ocOf (sCons (sAgg (sCons (sEq (pInt IntKind.i64)) (sCons (sEq (pInt IntKind.i64)) sNil))) sNil) fun ((p0_f, (p0_t, _)), _) => ((ref01_Text p0_f p0_t).isSome, (AV.str ((ref01_Text p0_f p0_t).getD [])))
theorem ref01_Text_c : OcOk Tryz.prog ITryz 34 (ref01_Text_o) := ocOk_of fun vv rr hh => by
  obtain ⟨⟨p0_f, ⟨p0_t, _⟩⟩, _⟩ := vv
  obtain ⟨hh1, hh2⟩ := Prod.mk.inj hh
  refine good_pin (p := ref01_Text_E0.pin) (good_XF mxTryz (inv0Ok Tryz.prog _) rfl ref01_Text_E0_ok Tryz.func34 rfl (by kernel_rfl) ref01_Text_E0_lk34 ((ref01_Text_x _ _ _ (getD_of_isSome (d := []) hh1)).trans ?_))
  exact congrArg some hh2


noncomputable def EK3_12 : Env := EK3_11.with 34 ref01_Text_o

theorem EK3_12_ok : OrcOk Tryz.prog ITryz EK3_12 := EK3_11_ok.with ref01_Text_c

/-- The environment of bitemporal/bitemporalref55.Violation: its loops so far. -/

noncomputable def ref55_Violation_E0 : Env := EK3_12.fn 20 0 (lsOf []) (lpsOf [])

theorem ref55_Violation_E0_ok : OrcOk Tryz.prog (ITryz.at 0) ref55_Violation_E0 := EK3_12_ok.fn

theorem ref55_Violation_E0_lk16 : LoOk Tryz.prog (ITryz.at ref55_Violation_E0.pin) ref55_Violation_E0 (Tryz.f16.body.getD .skip) := loOk_nil (by kernel_rfl)

/- 21 nodes -/
noncomputable def ref55_Violation_v4 (v_k : Int) (v_tb : List UInt8) (v_ix : Int) (v_r : List AV) (v_f : Int) (v_t : Int) : List UInt8 := v_tb ++ [(58 : UInt8), (32 : UInt8)] ++ (ref55_violated v_k v_tb v_ix v_r v_f v_t).getD []
noncomputable def ref55_Violation_v3 (v_k : Int) (v_tb : List UInt8) (v_ix : Int) (v_r : List AV) (v_f : Int) (v_t : Int) : List UInt8 := ref55_Violation_v4 v_k v_tb v_ix v_r v_f v_t ++ [(32 : UInt8), (118 : UInt8), (105 : UInt8), (111 : UInt8), (108 : UInt8), (97 : UInt8), (116 : UInt8), (101 : UInt8), (100 : UInt8), (32 : UInt8), (98 : UInt8), (121 : UInt8), (32 : UInt8)]
noncomputable def ref55_Violation_v2 (v_k : Int) (v_tb : List UInt8) (v_ix : Int) (v_r : List AV) (v_f : Int) (v_t : Int) : List UInt8 := ref55_Violation_v3 v_k v_tb v_ix v_r v_f v_t ++ (ref08_Text v_r).getD []
noncomputable def ref55_Violation_v1 (v_k : Int) (v_tb : List UInt8) (v_ix : Int) (v_r : List AV) (v_f : Int) (v_t : Int) : List UInt8 := ref55_Violation_v2 v_k v_tb v_ix v_r v_f v_t ++ [(32 : UInt8), (100 : UInt8), (117 : UInt8), (114 : UInt8), (105 : UInt8), (110 : UInt8), (103 : UInt8), (32 : UInt8)]
noncomputable def ref55_Violation_v0 (v_k : Int) (v_tb : List UInt8) (v_ix : Int) (v_r : List AV) (v_f : Int) (v_t : Int) : List UInt8 := ref55_Violation_v1 v_k v_tb v_ix v_r v_f v_t ++ (ref01_Text v_f v_t).getD []
noncomputable def ref55_Violation_t {T : Type} (v_k : Int) (v_tb : List UInt8) (v_ix : Int) (v_r : List AV) (v_f : Int) (v_t : Int) (δ : T) (κ : List UInt8 → T) : T := br (decide (v_tb.length + (2 : Nat) ≤ (4611686018427387904 : Nat))) (br ((ref55_violated v_k v_tb v_ix v_r v_f v_t).isSome) (br (decide ((v_tb ++ [(58 : UInt8), (32 : UInt8)]).length + ((ref55_violated v_k v_tb v_ix v_r v_f v_t).getD []).length ≤ (4611686018427387904 : Nat))) (br (decide ((ref55_Violation_v4 v_k v_tb v_ix v_r v_f v_t).length + (13 : Nat) ≤ (4611686018427387904 : Nat))) (br ((ref08_Text v_r).isSome) (br (decide ((ref55_Violation_v3 v_k v_tb v_ix v_r v_f v_t).length + ((ref08_Text v_r).getD []).length ≤ (4611686018427387904 : Nat))) (br (decide ((ref55_Violation_v2 v_k v_tb v_ix v_r v_f v_t).length + (8 : Nat) ≤ (4611686018427387904 : Nat))) (br ((ref01_Text v_f v_t).isSome) (br (decide ((ref55_Violation_v1 v_k v_tb v_ix v_r v_f v_t).length + ((ref01_Text v_f v_t).getD []).length ≤ (4611686018427387904 : Nat))) (br (decide ((ref55_Violation_v0 v_k v_tb v_ix v_r v_f v_t).length + (1 : Nat) ≤ (4611686018427387904 : Nat))) (κ (ref55_Violation_v0 v_k v_tb v_ix v_r v_f v_t ++ [(10 : UInt8)])) (δ)) (δ)) (δ)) (δ)) (δ)) (δ)) (δ)) (δ)) (δ)) (δ)
noncomputable def ref55_Violation (v_k : Int) (v_tb : List UInt8) (v_ix : Int) (v_r : List AV) (v_f : Int) (v_t : Int) : Option (List UInt8) := ref55_Violation_t v_k v_tb v_ix v_r v_f v_t none some
theorem ref55_Violation_x (v_k : Int) (v_tb : List UInt8) (v_ix : Int) (v_r : List AV) (v_f : Int) (v_t : Int) : Enc (fun (p : List UInt8) => ((AV.str p) : AV)) (ref55_Violation v_k v_tb v_ix v_r v_f v_t) (XF Tryz.prog ref55_Violation_E0 Tryz.f16 (Tryz.f16.body.getD .skip) [AV.agg [AV.int IntKind.i64 v_k, AV.str v_tb, AV.int IntKind.i64 v_ix, AV.list (3 : Nat) v_r, AV.int IntKind.i64 v_f, AV.int IntKind.i64 v_t]]) := by
  have h : XF Tryz.prog ref55_Violation_E0 Tryz.f16 (Tryz.f16.body.getD .skip) [AV.agg [AV.int IntKind.i64 v_k, AV.str v_tb, AV.int IntKind.i64 v_ix, AV.list (3 : Nat) v_r, AV.int IntKind.i64 v_f, AV.int IntKind.i64 v_t]] = ref55_Violation_t v_k v_tb v_ix v_r v_f v_t none (fun (p : List UInt8) => some ((AV.str p) : AV)) := by kernel_rfl
  rw [h]; unfold ref55_Violation ref55_Violation_t; repeat' (first | exact Enc.none | exact Enc.some rfl | refine Enc.br ?_ ?_)
noncomputable def ref55_Violation_o : List AV → Option (Bool × AV) := ocOf (sCons (sAgg (sCons (sEq (pInt IntKind.i64)) (sCons (sEq pStr) (sCons (sEq (pInt IntKind.i64)) (sCons (sList (3 : Nat) pAny) (sCons (sEq (pInt IntKind.i64)) (sCons (sEq (pInt IntKind.i64)) sNil))))))) sNil) fun ((v_k, (v_tb, (v_ix, (v_r, (v_f, (v_t, _)))))), _) => ((ref55_Violation v_k v_tb v_ix v_r v_f v_t).isSome, (AV.str ((ref55_Violation v_k v_tb v_ix v_r v_f v_t).getD [])))
theorem ref55_Violation_c : OcOk Tryz.prog ITryz 16 (ref55_Violation_o) := ocOk_of fun vv rr hh => by
  obtain ⟨⟨v_k, ⟨v_tb, ⟨v_ix, ⟨v_r, ⟨v_f, ⟨v_t, _⟩⟩⟩⟩⟩⟩, _⟩ := vv
  obtain ⟨hh1, hh2⟩ := Prod.mk.inj hh
  refine good_pin (p := ref55_Violation_E0.pin) (good_XF mxTryz (inv0Ok Tryz.prog _) rfl ref55_Violation_E0_ok Tryz.func16 rfl (by kernel_rfl) ref55_Violation_E0_lk16 ((ref55_Violation_x _ _ _ _ _ _ _ (getD_of_isSome (d := []) hh1)).trans ?_))
  exact congrArg some hh2


noncomputable def EK3_13 : Env := EK3_12.with 16 ref55_Violation_o

theorem EK3_13_ok : OrcOk Tryz.prog ITryz EK3_13 := EK3_12_ok.with ref55_Violation_c

/-- The environment of bitemporal/bitemporallaw55.tame: its loops so far. -/

noncomputable def law55_tame_E0 : Env := EK3_13.fn 22 0 (lsOf []) (lpsOf [])

theorem law55_tame_E0_ok : OrcOk Tryz.prog (ITryz.at 0) law55_tame_E0 := EK3_13_ok.fn

theorem law55_tame_E0_lk9_0 : LoOk Tryz.prog (ITryz.at law55_tame_E0.pin) law55_tame_E0 (loopAt Tryz.f9 0) := loOk_nil (by kernel_rfl)

/- 15 nodes -/
noncomputable def law55_tame_l0_t {T : Type} (l : List AV) (t5 : Int) (t6 : Int) (δ : T) (κl : (Int) → T) (κr : (Bool × (Bool) × (Unit)) → T) : T := br (decide (t6 < t5)) (br (decide ((0 : Int) ≤ t6) && decide (t6 < (↑l.length : Int))) (br (decide (t6.toNat < l.length) && hasSh1 (Sh.int IntKind.i64) ((l.getD t6.toNat AV.top).cells.getD (0 : Nat) AV.top)) (br (decide (((l.getD t6.toNat AV.top).cells.getD (0 : Nat) AV.top).toInt < (-1152921504606846976 : Int))) (κr (true, (false), ())) (br (decide ((0 : Int) ≤ t6) && decide (t6 < (↑l.length : Int))) (br (decide (t6.toNat < l.length) && hasSh1 (Sh.int IntKind.i64) ((l.getD t6.toNat AV.top).cells.getD (0 : Nat) AV.top)) (br (decide (((l.getD t6.toNat AV.top).cells.getD (0 : Nat) AV.top).toInt > (1152921504606846976 : Int))) (κr (true, (false), ())) (κl (IntKind.i64.wrap (t6 + (1 : Int))))) (δ)) (δ))) (δ)) (δ)) (κr (false, false, ()))
noncomputable def law55_tame_l0_step (l : List AV) (t5 : Int) : (Int) → Option ((Int) ⊕ (Bool × (Bool) × (Unit))) := fun (t6) => law55_tame_l0_t l t5 t6 none (fun s => some (.inl s)) (fun p => some (.inr p))
noncomputable def law55_tame_l0_L (l : List AV) (t5 : Int) : (Int) → List AV × List Box := fun (t6) => ([AV.list (1 : Nat) l, AV.int IntKind.i64 t5, AV.int IntKind.i64 t6], [])
noncomputable def law55_tame_l0_out (l : List AV) (t5 : Int) : (Bool × (Bool) × (Unit)) → LR := fun p => (.node p.1 (.leaf (Exit.ret) [AV.bool p.2.1] []) (.leaf (Exit.exit (0 : Nat)) [AV.top] []))
noncomputable abbrev law55_tame_l0_X (vals : List AV) (H : List Box) := XR Tryz.prog law55_tame_E0 [0, 5, 6] [2] [] (loopAt Tryz.f9 0) vals H
theorem law55_tame_l0_r (l : List AV) (t5 : Int) (t6 : Int) : Enc (encR (law55_tame_l0_L l t5) (law55_tame_l0_out l t5)) (law55_tame_l0_step l t5 t6) (law55_tame_l0_X (law55_tame_l0_L l t5 t6).1 (law55_tame_l0_L l t5 t6).2) := by
  have h : law55_tame_l0_X (law55_tame_l0_L l t5 t6).1 (law55_tame_l0_L l t5 t6).2 = law55_tame_l0_t l t5 t6 none (fun s => some (encR (law55_tame_l0_L l t5) (law55_tame_l0_out l t5) (.inl s))) (fun p => some (encR (law55_tame_l0_L l t5) (law55_tame_l0_out l t5) (.inr p))) := by kernel_rfl
  rw [h]; unfold law55_tame_l0_step law55_tame_l0_t; repeat' (first | exact Enc.none | exact Enc.some rfl | refine Enc.br ?_ ?_)
noncomputable def law55_tame_l0_lp : Lp := lpOf [0, 5, 6] [2] [] (pCons (pList (1 : Nat) pAny) (pCons (pInt IntKind.i64) (pCons (pInt IntKind.i64) pNil))) pNil fun (l, (t5, (t6, _))) _ => ((Iter (law55_tame_l0_step l t5) (t6)).isSome, law55_tame_l0_out l t5 ((Iter (law55_tame_l0_step l t5) (t6)).getD (false, false, ())))
theorem law55_tame_l0_lok : LoopOk Tryz.prog (ITryz.at law55_tame_E0.pin) law55_tame_E0.nt (loopAt Tryz.f9 0) law55_tame_l0_lp := lok_of fun vv bb rr hh => by
  obtain ⟨l, ⟨t5, ⟨t6, _⟩⟩⟩ := vv
  obtain ⟨hh1, rfl⟩ := Prod.mk.inj hh
  exact loop_of_XR mxTryz (inv0Ok Tryz.prog _) rfl law55_tame_E0_ok law55_tame_E0_lk9_0 (law55_tame_l0_L l t5) (law55_tame_l0_out l t5) (fun p => by simp only [law55_tame_l0_out, LR.eval]; first | (simp; done) | (repeat' split <;> simp)) (law55_tame_l0_r l t5) (s := (t6)) (getD_of_isSome hh1)


/-- The environment of bitemporal/bitemporallaw55.tame: its loops so far. -/

noncomputable def law55_tame_E1 : Env := EK3_13.fn 22 0 (lsOf []) (lpsOf [(2, law55_tame_l0_lp)])

theorem law55_tame_E1_ok : OrcOk Tryz.prog (ITryz.at 0) law55_tame_E1 := EK3_13_ok.fn

theorem law55_tame_E1_lk9 : LoOk Tryz.prog (ITryz.at law55_tame_E1.pin) law55_tame_E1 (Tryz.f9.body.getD .skip) := loOk_all (ls := [loopAt Tryz.f9 0]) (by kernel_rfl) (fun l hl lp hs => by
  simp only [List.mem_cons, List.not_mem_nil, or_false] at hl
  rcases hl with rfl
  · rw [show law55_tame_E1.lp (codeId (loopAt Tryz.f9 0)) = some law55_tame_l0_lp by kernel_rfl] at hs
    simp only [Option.some.injEq] at hs; subst hs; exact law55_tame_l0_lok)

/- 5 nodes -/
noncomputable def law55_tame_t {T : Type} (l : List AV) (δ : T) (κ : Bool → T) : T := br ((Iter (law55_tame_l0_step l (↑l.length : Int)) (0 : Int)).isSome) (br (((Iter (law55_tame_l0_step l (↑l.length : Int)) (0 : Int)).getD (false, false, ())).fst) (κ (((Iter (law55_tame_l0_step l (↑l.length : Int)) (0 : Int)).getD (false, false, ())).snd.fst)) (κ (true))) (δ)
noncomputable def law55_tame (l : List AV) : Option (Bool) := law55_tame_t l none some
theorem law55_tame_x (l : List AV) : Enc (fun (p : Bool) => ((AV.bool p) : AV)) (law55_tame l) (XF Tryz.prog law55_tame_E1 Tryz.f9 (Tryz.f9.body.getD .skip) [AV.list (1 : Nat) l]) := by
  have h : XF Tryz.prog law55_tame_E1 Tryz.f9 (Tryz.f9.body.getD .skip) [AV.list (1 : Nat) l] = law55_tame_t l none (fun (p : Bool) => some ((AV.bool p) : AV)) := by kernel_rfl
  rw [h]; unfold law55_tame law55_tame_t; repeat' (first | exact Enc.none | exact Enc.some rfl | refine Enc.br ?_ ?_)
noncomputable def law55_tame_o : List AV → Option (Bool × AV) := ocOf (sCons (sList (1 : Nat) pAny) sNil) fun (l, _) => ((law55_tame l).isSome, (AV.bool ((law55_tame l).getD false)))
theorem law55_tame_c : OcOk Tryz.prog ITryz 9 (law55_tame_o) := ocOk_of fun vv rr hh => by
  obtain ⟨l, _⟩ := vv
  obtain ⟨hh1, hh2⟩ := Prod.mk.inj hh
  refine good_pin (p := law55_tame_E1.pin) (good_XF mxTryz (inv0Ok Tryz.prog _) rfl law55_tame_E1_ok Tryz.func9 rfl (by kernel_rfl) law55_tame_E1_lk9 ((law55_tame_x _ _ (getD_of_isSome (d := false) hh1)).trans ?_))
  exact congrArg some hh2


noncomputable def EK3_14 : Env := EK3_13.with 9 law55_tame_o

theorem EK3_14_ok : OrcOk Tryz.prog ITryz EK3_14 := EK3_13_ok.with law55_tame_c

noncomputable abbrev EK3 : Env := EK3_14

theorem EK3_ok : OrcOk Tryz.prog ITryz EK3 := EK3_14_ok

end Go.Sim.M
