/- Functions of the program as the executor found them: printed by program, checked by the kernel. -/
import Derived.Test.YtlapjnnkblbhdaaDoorLibG
set_option linter.unusedVariables false
set_option linter.unusedSimpArgs false
set_option maxRecDepth 100000
namespace Go.Sim.M
open Go.RowKit Go.Proofs

/-- The environment of slices.Concat   bitemporal/api.Value,bitemporal/api.Value : its loops so far. -/

noncomputable def slices_Concat_E0 : Env := EG.fn 36 0 (lsOf []) (lpsOf [])

theorem slices_Concat_E0_ok : OrcOk Tryd.prog (ITryd.at 0) slices_Concat_E0 := EG_ok.fn

theorem slices_Concat_E0_lk48 : LoOk Tryd.prog (ITryd.at slices_Concat_E0.pin) slices_Concat_E0 (Tryd.f48.body.getD .skip) := loOk_all (ls := [loopAt Tryd.f48 0, loopAt Tryd.f48 1]) (by kernel_rfl) (fun l hl lp hs => by
  simp only [List.mem_cons, List.not_mem_nil, or_false] at hl
  rcases hl with rfl | rfl
  · rw [show slices_Concat_E0.lp (codeId (loopAt Tryd.f48 0)) = none by kernel_rfl] at hs
    simp at hs
  · rw [show slices_Concat_E0.lp (codeId (loopAt Tryd.f48 1)) = none by kernel_rfl] at hs
    simp at hs)

/- 13 nodes -/
noncomputable def slices_Concat_v0 (a : List AV) (b : List AV) : Int := IntKind.i64.wrap (IntKind.i64.wrap ((0 : Int) + (↑a.length : Int)) + (↑b.length : Int))
noncomputable def slices_Concat_v1 (a : List AV) (b : List AV) : Nat := (0 : Nat) + a.length + b.length
noncomputable def slices_Concat_t {T : Type} (a : List AV) (b : List AV) (δ : T) (κ : List AV → T) : T := br (decide (IntKind.i64.wrap ((0 : Int) + (↑a.length : Int)) < (0 : Int))) (δ) (br (decide (slices_Concat_v0 a b < (0 : Int))) (δ) (br (decide ((0 : Int) ≤ slices_Concat_v0 a b) && decide (slices_Concat_v0 a b ≤ (4398046511104 : Int))) (br (decide (((0 : Nat) + a.length) * (32 : Nat) ≤ (140737488355328 : Nat)) && decide ((0 : Nat) + a.length ≤ (4611686018427387904 : Nat))) (br ((0 : Nat) + a.length == ([] ++ a).length && (decide (slices_Concat_v1 a b * (32 : Nat) ≤ (140737488355328 : Nat)) && decide (slices_Concat_v1 a b ≤ (4611686018427387904 : Nat)))) (br (decide ((0 : Nat) + slices_Concat_v1 a b ≤ ([] ++ a ++ b).length) && true) (κ (List.take (slices_Concat_v1 a b) (List.drop (0 : Nat) ([] ++ a ++ b)))) (δ)) (δ)) (δ)) (δ)))
noncomputable def slices_Concat (a : List AV) (b : List AV) : Option (List AV) := slices_Concat_t a b none some
theorem slices_Concat_x (a : List AV) (b : List AV) : Enc (fun (p : List AV) => ((AV.list (3 : Nat) p) : AV)) (slices_Concat a b) (XF Tryd.prog slices_Concat_E0 Tryd.f48 (Tryd.f48.body.getD .skip) [AV.list (1 : Nat) [AV.list (3 : Nat) a, AV.list (3 : Nat) b]]) := by
  have h : XF Tryd.prog slices_Concat_E0 Tryd.f48 (Tryd.f48.body.getD .skip) [AV.list (1 : Nat) [AV.list (3 : Nat) a, AV.list (3 : Nat) b]] = slices_Concat_t a b none (fun (p : List AV) => some ((AV.list (3 : Nat) p) : AV)) := by kernel_rfl
  rw [h]; unfold slices_Concat slices_Concat_t; repeat' (first | exact Enc.none | exact Enc.some rfl | refine Enc.br ?_ ?_)
noncomputable def slices_Concat_o : List AV → Option (Bool × AV) := ocOf (sCons (sList (1 : Nat) (pCons (pList (3 : Nat) pAny) (pCons (pList (3 : Nat) pAny) pNil))) sNil) fun ((a, (b, _)), _) => ((slices_Concat a b).isSome, (AV.list (3 : Nat) ((slices_Concat a b).getD [])))
theorem slices_Concat_c : OcOk Tryd.prog ITryd 48 (slices_Concat_o) := ocOk_of fun vv rr hh => by
  obtain ⟨⟨a, ⟨b, _⟩⟩, _⟩ := vv
  obtain ⟨hh1, hh2⟩ := Prod.mk.inj hh
  refine good_pin (p := slices_Concat_E0.pin) (good_XF mxTryd (inv0Ok Tryd.prog _) rfl slices_Concat_E0_ok Tryd.func48 rfl (by kernel_rfl) slices_Concat_E0_lk48 ((slices_Concat_x _ _ _ (getD_of_isSome (d := []) hh1)).trans ?_))
  exact congrArg some hh2


noncomputable def ELC_1 : Env := EG.with 48 slices_Concat_o

theorem ELC_1_ok : OrcOk Tryd.prog ITryd ELC_1 := EG_ok.with slices_Concat_c

/-- The environment of bitemporal/tuple.Concat: its loops so far. -/

noncomputable def tuple_Concat_E0 : Env := ELC_1.fn 9 0 (lsOf []) (lpsOf [])

theorem tuple_Concat_E0_ok : OrcOk Tryd.prog (ITryd.at 0) tuple_Concat_E0 := ELC_1_ok.fn

theorem tuple_Concat_E0_lk25 : LoOk Tryd.prog (ITryd.at tuple_Concat_E0.pin) tuple_Concat_E0 (Tryd.f25.body.getD .skip) := loOk_nil (by kernel_rfl)

/- 3 nodes -/
noncomputable def tuple_Concat_t {T : Type} (a : List AV) (b : List AV) (δ : T) (κ : List AV → T) : T := br ((slices_Concat a b).isSome) (κ ((slices_Concat a b).getD [])) (δ)
noncomputable def tuple_Concat (a : List AV) (b : List AV) : Option (List AV) := tuple_Concat_t a b none some
theorem tuple_Concat_x (a : List AV) (b : List AV) : Enc (fun (p : List AV) => ((AV.list (3 : Nat) p) : AV)) (tuple_Concat a b) (XF Tryd.prog tuple_Concat_E0 Tryd.f25 (Tryd.f25.body.getD .skip) [AV.list (3 : Nat) a, AV.list (3 : Nat) b]) := by
  have h : XF Tryd.prog tuple_Concat_E0 Tryd.f25 (Tryd.f25.body.getD .skip) [AV.list (3 : Nat) a, AV.list (3 : Nat) b] = tuple_Concat_t a b none (fun (p : List AV) => some ((AV.list (3 : Nat) p) : AV)) := by kernel_rfl
  rw [h]; unfold tuple_Concat tuple_Concat_t; repeat' (first | exact Enc.none | exact Enc.some rfl | refine Enc.br ?_ ?_)
noncomputable def tuple_Concat_o : List AV → Option (Bool × AV) := ocOf (sCons (sList (3 : Nat) pAny) (sCons (sList (3 : Nat) pAny) sNil)) fun (a, (b, _)) => ((tuple_Concat a b).isSome, (AV.list (3 : Nat) ((tuple_Concat a b).getD [])))
theorem tuple_Concat_c : OcOk Tryd.prog ITryd 25 (tuple_Concat_o) := ocOk_of fun vv rr hh => by
  obtain ⟨a, ⟨b, _⟩⟩ := vv
  obtain ⟨hh1, hh2⟩ := Prod.mk.inj hh
  refine good_pin (p := tuple_Concat_E0.pin) (good_XF mxTryd (inv0Ok Tryd.prog _) rfl tuple_Concat_E0_ok Tryd.func25 rfl (by kernel_rfl) tuple_Concat_E0_lk25 ((tuple_Concat_x _ _ _ (getD_of_isSome (d := []) hh1)).trans ?_))
  exact congrArg some hh2


noncomputable def ELC_2 : Env := ELC_1.with 25 tuple_Concat_o

theorem ELC_2_ok : OrcOk Tryd.prog ITryd ELC_2 := ELC_1_ok.with tuple_Concat_c

/-- The environment of bitemporal/bitemporallaw08.TupleColumns: its loops so far. -/

noncomputable def law08_TupleColumns_E0 : Env := ELC_2.fn 55 0 (lsOf []) (lpsOf [])

theorem law08_TupleColumns_E0_ok : OrcOk Tryd.prog (ITryd.at 0) law08_TupleColumns_E0 := ELC_2_ok.fn

theorem law08_TupleColumns_E0_lk8_0 : LoOk Tryd.prog (ITryd.at law08_TupleColumns_E0.pin) law08_TupleColumns_E0 (loopAt Tryd.f8 0) := loOk_nil (by kernel_rfl)

/- 9 nodes -/
noncomputable def law08_TupleColumns_l0_t {T : Type} (a : List AV) (b : List AV) (c : List AV) (t13 : Int) (l_n : Nat) (m_n : Nat) (t14 : Int) (l_xs : List AV) (m_xs : List AV) (δ : T) (κl : (Nat × Nat × Int × List AV × List AV) → T) (κr : (Nat × Nat × List AV × List AV) → T) : T := br (decide (t14 < t13)) (br (decide (t14 < (↑a.length : Int))) (br (l_n == l_xs.length && (decide ((l_n + (1 : Nat)) * (8 : Nat) ≤ (140737488355328 : Nat)) && decide (l_n + (1 : Nat) ≤ (4611686018427387904 : Nat)))) (κl (l_n + (1 : Nat), m_n, IntKind.i64.wrap (t14 + (1 : Int)), l_xs ++ [AV.int IntKind.i64 t14], m_xs)) (δ)) (br (m_n == m_xs.length && (decide ((m_n + (1 : Nat)) * (8 : Nat) ≤ (140737488355328 : Nat)) && decide (m_n + (1 : Nat) ≤ (4611686018427387904 : Nat)))) (κl (l_n, m_n + (1 : Nat), IntKind.i64.wrap (t14 + (1 : Int)), l_xs, m_xs ++ [AV.int IntKind.i64 t14])) (δ))) (κr (l_n, m_n, l_xs, m_xs))
noncomputable def law08_TupleColumns_l0_step (a : List AV) (b : List AV) (c : List AV) (t13 : Int) : (Nat × Nat × Int × List AV × List AV) → Option ((Nat × Nat × Int × List AV × List AV) ⊕ (Nat × Nat × List AV × List AV)) := fun (l_n, m_n, t14, l_xs, m_xs) => law08_TupleColumns_l0_t a b c t13 l_n m_n t14 l_xs m_xs none (fun s => some (.inl s)) (fun p => some (.inr p))
noncomputable def law08_TupleColumns_l0_L (a : List AV) (b : List AV) (c : List AV) (t13 : Int) : (Nat × Nat × Int × List AV × List AV) → List AV × List Box := fun (l_n, m_n, t14, l_xs, m_xs) => ([AV.list (3 : Nat) a, AV.list (3 : Nat) b, AV.list (3 : Nat) c, AV.osl 0 0 0 l_n, AV.osl 1 0 0 m_n, AV.int IntKind.i64 t13, AV.int IntKind.i64 t14], [⟨0, (1 : Nat), (3 : Nat), l_xs, false, true⟩, ⟨0, (1 : Nat), (3 : Nat), m_xs, false, true⟩])
noncomputable def law08_TupleColumns_l0_out (a : List AV) (b : List AV) (c : List AV) (t13 : Int) : (Nat × Nat × List AV × List AV) → LR := fun p => (.leaf (Exit.exit (0 : Nat)) [AV.list (3 : Nat) a, AV.list (3 : Nat) b, AV.list (3 : Nat) c, AV.osl 0 0 0 p.1, AV.osl 1 0 0 p.2.1] [⟨0, (1 : Nat), (3 : Nat), p.2.2.1, false, true⟩, ⟨0, (1 : Nat), (3 : Nat), p.2.2.2, false, true⟩])
noncomputable abbrev law08_TupleColumns_l0_X (vals : List AV) (H : List Box) := XR Tryd.prog law08_TupleColumns_E0 [0, 1, 5, 6, 7, 13, 14] [0, 1, 5, 6, 7] [(6, 1, 3), (7, 1, 3)] (loopAt Tryd.f8 0) vals H
theorem law08_TupleColumns_l0_r (a : List AV) (b : List AV) (c : List AV) (t13 : Int) (s : Nat × Nat × Int × List AV × List AV) : Enc (encR (law08_TupleColumns_l0_L a b c t13) (law08_TupleColumns_l0_out a b c t13)) (law08_TupleColumns_l0_step a b c t13 s) (law08_TupleColumns_l0_X (law08_TupleColumns_l0_L a b c t13 s).1 (law08_TupleColumns_l0_L a b c t13 s).2) := by
  obtain ⟨l_n, m_n, t14, l_xs, m_xs⟩ := s
  have h : law08_TupleColumns_l0_X (law08_TupleColumns_l0_L a b c t13 (l_n, m_n, t14, l_xs, m_xs)).1 (law08_TupleColumns_l0_L a b c t13 (l_n, m_n, t14, l_xs, m_xs)).2 = law08_TupleColumns_l0_t a b c t13 l_n m_n t14 l_xs m_xs none (fun s => some (encR (law08_TupleColumns_l0_L a b c t13) (law08_TupleColumns_l0_out a b c t13) (.inl s))) (fun p => some (encR (law08_TupleColumns_l0_L a b c t13) (law08_TupleColumns_l0_out a b c t13) (.inr p))) := by kernel_rfl
  rw [h]; unfold law08_TupleColumns_l0_step law08_TupleColumns_l0_t; repeat' (first | exact Enc.none | exact Enc.some rfl | refine Enc.br ?_ ?_)
noncomputable def law08_TupleColumns_l0_lp : Lp := lpOf [0, 1, 5, 6, 7, 13, 14] [0, 1, 5, 6, 7] [(6, 1, 3), (7, 1, 3)] (pCons (pList (3 : Nat) pAny) (pCons (pList (3 : Nat) pAny) (pCons (pList (3 : Nat) pAny) (pCons (pOsl (0 : Nat) (0 : Nat) (0 : Nat)) (pCons (pOsl (1 : Nat) (0 : Nat) (0 : Nat)) (pCons (pInt IntKind.i64) (pCons (pInt IntKind.i64) pNil))))))) (pCons (pBox (0 : Nat) (1 : Nat) (3 : Nat) false true pAny) (pCons (pBox (0 : Nat) (1 : Nat) (3 : Nat) false true pAny) pNil)) fun (a, (b, (c, (l_n, (m_n, (t13, (t14, _))))))) (l_xs, (m_xs, _)) => ((Iter (law08_TupleColumns_l0_step a b c t13) (l_n, m_n, t14, l_xs, m_xs)).isSome, law08_TupleColumns_l0_out a b c t13 ((Iter (law08_TupleColumns_l0_step a b c t13) (l_n, m_n, t14, l_xs, m_xs)).getD (0, 0, [], [])))
theorem law08_TupleColumns_l0_lok : LoopOk Tryd.prog (ITryd.at law08_TupleColumns_E0.pin) law08_TupleColumns_E0.nt (loopAt Tryd.f8 0) law08_TupleColumns_l0_lp := lok_of fun vv bb rr hh => by
  obtain ⟨a, ⟨b, ⟨c, ⟨l_n, ⟨m_n, ⟨t13, ⟨t14, _⟩⟩⟩⟩⟩⟩⟩ := vv
  obtain ⟨l_xs, ⟨m_xs, _⟩⟩ := bb
  obtain ⟨hh1, rfl⟩ := Prod.mk.inj hh
  exact loop_of_XR mxTryd (inv0Ok Tryd.prog _) rfl law08_TupleColumns_E0_ok law08_TupleColumns_E0_lk8_0 (law08_TupleColumns_l0_L a b c t13) (law08_TupleColumns_l0_out a b c t13) (fun p => by simp only [law08_TupleColumns_l0_out, LR.eval]; first | (simp; done) | (repeat' split <;> simp)) (law08_TupleColumns_l0_r a b c t13) (s := (l_n, m_n, t14, l_xs, m_xs)) (getD_of_isSome hh1)


/-- The environment of bitemporal/bitemporallaw08.TupleColumns: its loops so far. -/

noncomputable def law08_TupleColumns_E1 : Env := ELC_2.fn 55 0 (lsOf []) (lpsOf [(4, law08_TupleColumns_l0_lp)])

theorem law08_TupleColumns_E1_ok : OrcOk Tryd.prog (ITryd.at 0) law08_TupleColumns_E1 := ELC_2_ok.fn

theorem law08_TupleColumns_E1_lk8 : LoOk Tryd.prog (ITryd.at law08_TupleColumns_E1.pin) law08_TupleColumns_E1 (Tryd.f8.body.getD .skip) := loOk_all (ls := [loopAt Tryd.f8 0]) (by kernel_rfl) (fun l hl lp hs => by
  simp only [List.mem_cons, List.not_mem_nil, or_false] at hl
  rcases hl with rfl
  · rw [show law08_TupleColumns_E1.lp (codeId (loopAt Tryd.f8 0)) = some law08_TupleColumns_l0_lp by kernel_rfl] at hs
    simp only [Option.some.injEq] at hs; subst hs; exact law08_TupleColumns_l0_lok)

/- 23 nodes -/
noncomputable def law08_TupleColumns_v11 (a : List AV) (b : List AV) : Option (Nat × Nat × List AV × List AV) := Iter (law08_TupleColumns_l0_step a b ((tuple_Concat a b).getD []) (↑((tuple_Concat a b).getD []).length : Int)) ((0 : Nat), (0 : Nat), (0 : Int), [], [])
noncomputable def law08_TupleColumns_v10 (a : List AV) (b : List AV) : Nat × Nat × List AV × List AV := (law08_TupleColumns_v11 a b).getD ((0 : Nat), (0 : Nat), [], [])
noncomputable def law08_TupleColumns_v8 (a : List AV) (b : List AV) : Nat × List AV × List AV := (law08_TupleColumns_v10 a b).snd
noncomputable def law08_TupleColumns_v9 (a : List AV) (b : List AV) : Nat := (law08_TupleColumns_v10 a b).fst
noncomputable def law08_TupleColumns_v6 (a : List AV) (b : List AV) : Nat := (law08_TupleColumns_v8 a b).fst
noncomputable def law08_TupleColumns_v7 (a : List AV) (b : List AV) : List AV × List AV := (law08_TupleColumns_v8 a b).snd
noncomputable def law08_TupleColumns_v4 (a : List AV) (b : List AV) : List AV := (law08_TupleColumns_v7 a b).snd
noncomputable def law08_TupleColumns_v5 (a : List AV) (b : List AV) : List AV := (law08_TupleColumns_v7 a b).fst
noncomputable def law08_TupleColumns_v2 (a : List AV) (b : List AV) : List AV := List.take (law08_TupleColumns_v6 a b) (List.drop (0 : Nat) (law08_TupleColumns_v4 a b))
noncomputable def law08_TupleColumns_v3 (a : List AV) (b : List AV) : List AV := List.take (law08_TupleColumns_v9 a b) (List.drop (0 : Nat) (law08_TupleColumns_v5 a b))
noncomputable def law08_TupleColumns_v0 (a : List AV) (b : List AV) : List AV := tuple_Pick ((tuple_Concat a b).getD []) (law08_TupleColumns_v2 a b)
noncomputable def law08_TupleColumns_v1 (a : List AV) (b : List AV) : List AV := tuple_Pick ((tuple_Concat a b).getD []) (law08_TupleColumns_v3 a b)
noncomputable def law08_TupleColumns_t {T : Type} (a : List AV) (b : List AV) (δ : T) (κ : Bool → T) : T := br ((tuple_Concat a b).isSome) (br ((law08_TupleColumns_v11 a b).isSome) (br ((↑((tuple_Concat a b).getD []).length : Int) == IntKind.i64.wrap ((↑a.length : Int) + (↑b.length : Int))) (br (decide ((0 : Nat) + law08_TupleColumns_v9 a b ≤ (law08_TupleColumns_v5 a b).length) && true) (br (tuple_Pick_pre ((tuple_Concat a b).getD []) (law08_TupleColumns_v3 a b)) (br (tuple_Equal_pre (law08_TupleColumns_v1 a b) a) (br (tuple_Equal (law08_TupleColumns_v1 a b) a) (br (decide ((0 : Nat) + law08_TupleColumns_v6 a b ≤ (law08_TupleColumns_v4 a b).length) && true) (br (tuple_Pick_pre ((tuple_Concat a b).getD []) (law08_TupleColumns_v2 a b)) (br (tuple_Equal_pre (law08_TupleColumns_v0 a b) b) (br (tuple_Equal (law08_TupleColumns_v0 a b) b) (κ (true)) (κ (false))) (δ)) (δ)) (δ)) (κ (false))) (δ)) (δ)) (δ)) (κ (false))) (δ)) (δ)
noncomputable def law08_TupleColumns (a : List AV) (b : List AV) : Option (Bool) := law08_TupleColumns_t a b none some
theorem law08_TupleColumns_x (a : List AV) (b : List AV) : Enc (fun (p : Bool) => ((AV.bool p) : AV)) (law08_TupleColumns a b) (XF Tryd.prog law08_TupleColumns_E1 Tryd.f8 (Tryd.f8.body.getD .skip) [AV.list (3 : Nat) a, AV.list (3 : Nat) b]) := by
  have h : XF Tryd.prog law08_TupleColumns_E1 Tryd.f8 (Tryd.f8.body.getD .skip) [AV.list (3 : Nat) a, AV.list (3 : Nat) b] = law08_TupleColumns_t a b none (fun (p : Bool) => some ((AV.bool p) : AV)) := by kernel_rfl
  rw [h]; unfold law08_TupleColumns law08_TupleColumns_t; repeat' (first | exact Enc.none | exact Enc.some rfl | refine Enc.br ?_ ?_)
noncomputable def law08_TupleColumns_o : List AV → Option (Bool × AV) := ocOf (sCons (sList (3 : Nat) pAny) (sCons (sList (3 : Nat) pAny) sNil)) fun (a, (b, _)) => ((law08_TupleColumns a b).isSome, (AV.bool ((law08_TupleColumns a b).getD false)))
theorem law08_TupleColumns_c : OcOk Tryd.prog ITryd 8 (law08_TupleColumns_o) := ocOk_of fun vv rr hh => by
  obtain ⟨a, ⟨b, _⟩⟩ := vv
  obtain ⟨hh1, hh2⟩ := Prod.mk.inj hh
  refine good_pin (p := law08_TupleColumns_E1.pin) (good_XF mxTryd (inv0Ok Tryd.prog _) rfl law08_TupleColumns_E1_ok Tryd.func8 rfl (by kernel_rfl) law08_TupleColumns_E1_lk8 ((law08_TupleColumns_x _ _ _ (getD_of_isSome (d := false) hh1)).trans ?_))
  exact congrArg some hh2


noncomputable def ELC_3 : Env := ELC_2.with 8 law08_TupleColumns_o

theorem ELC_3_ok : OrcOk Tryd.prog ITryd ELC_3 := ELC_2_ok.with law08_TupleColumns_c

noncomputable abbrev ELC : Env := ELC_3

theorem ELC_ok : OrcOk Tryd.prog ITryd ELC := ELC_3_ok

end Go.Sim.M
