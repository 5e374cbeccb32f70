/- Functions of the program as the executor found them: printed by program, checked by the kernel. -/
import Derived.Test.YtpnibjljhfgjaaaGreatDoorK7
set_option linter.unusedVariables false
set_option linter.unusedSimpArgs false
set_option maxRecDepth 100000
namespace Go.Sim.M
open Go.RowKit Go.Proofs

/-- The environment of bitemporal/bitemporalref55.Versions: its loops so far. -/

noncomputable def ref55_Versions_E0 : Env := EK7.fn 83 0 (lsOf [59]) (lpsOf [])

theorem ref55_Versions_E0_ok : OrcOk Tryz.prog (ITryz.at 0) ref55_Versions_E0 := EK7_ok.fn

theorem ref55_Versions_E0_lk18_0 : LoOk Tryz.prog (ITryz.at ref55_Versions_E0.pin) ref55_Versions_E0 (loopAt Tryz.f18 0) := loOk_nil (by kernel_rfl)

/- 77 nodes -/
noncomputable def ref55_Versions_l0_v2 (v : List AV) (i : Int) : Bool := decide ((0 : Int) ≤ i) && decide (i < (↑v.length : Int))
noncomputable def ref55_Versions_l0_v6 (l : List AV) (v : List AV) (i : Int) : List AV := List.take ((ref55_cells_M ((v.getD i.toNat AV.top).cells.getD (2 : Nat) AV.top).toList (↑l.length : Int)).getD ((0 : Nat), [])).fst (List.drop (0 : Nat) ((ref55_cells_M ((v.getD i.toNat AV.top).cells.getD (2 : Nat) AV.top).toList (↑l.length : Int)).getD ((0 : Nat), [])).snd)
noncomputable def ref55_Versions_l0_v9 (v : List AV) (i : Int) : Bool := decide (i.toNat < v.length)
noncomputable def ref55_Versions_l0_v1 (l : List AV) (v : List AV) (i : Int) : Nat := (1 : Nat) + (ref55_Versions_l0_v6 l v i).length
noncomputable def ref55_Versions_l0_v5 (l : List AV) (v : List AV) (i : Int) : List AV := [AV.str ((ref07_Number ((v.getD i.toNat AV.top).cells.getD (0 : Nat) AV.top).toInt).getD [])] ++ ref55_Versions_l0_v6 l v i
noncomputable def ref55_Versions_l0_v7 (v : List AV) (i : Int) : Bool := ref55_Versions_l0_v9 v i && ((v.getD i.toNat AV.top).cells.length == (9 : Nat) && hasShs [Sh.int IntKind.i64, Sh.int IntKind.i64] (v.getD i.toNat AV.top).cells (5 : Nat))
noncomputable def ref55_Versions_l0_v8 (v : List AV) (i : Int) : Bool := ref55_Versions_l0_v9 v i && ((v.getD i.toNat AV.top).cells.length == (9 : Nat) && hasShs [Sh.int IntKind.i64, Sh.int IntKind.i64] (v.getD i.toNat AV.top).cells (3 : Nat))
noncomputable def ref55_Versions_l0_v0 (l : List AV) (v : List AV) (i : Int) : Nat := ref55_Versions_l0_v1 l v i + (4 : Nat)
noncomputable def ref55_Versions_l0_v3 (l : List AV) (v : List AV) (i : Int) : List AV := ref55_Versions_l0_v5 l v i ++ [AV.str ((ref01_Text ((v.getD i.toNat AV.top).cells.getD (3 : Nat) AV.top).toInt ((v.getD i.toNat AV.top).cells.getD (4 : Nat) AV.top).toInt).getD []), AV.str ((ref01_Text ((v.getD i.toNat AV.top).cells.getD (5 : Nat) AV.top).toInt ((v.getD i.toNat AV.top).cells.getD (6 : Nat) AV.top).toInt).getD []), AV.str ((ref07_Number ((v.getD i.toNat AV.top).cells.getD (7 : Nat) AV.top).toInt).getD []), AV.str ((ref07_Number ((v.getD i.toNat AV.top).cells.getD (8 : Nat) AV.top).toInt).getD [])]
noncomputable def ref55_Versions_l0_v4 (l : List AV) (v : List AV) (i : Int) : List AV := ref55_Versions_l0_v5 l v i ++ [AV.str ((ref01_Text ((v.getD i.toNat AV.top).cells.getD (3 : Nat) AV.top).toInt ((v.getD i.toNat AV.top).cells.getD (4 : Nat) AV.top).toInt).getD []), AV.str ((ref01_Text ((v.getD i.toNat AV.top).cells.getD (5 : Nat) AV.top).toInt ((v.getD i.toNat AV.top).cells.getD (6 : Nat) AV.top).toInt).getD []), AV.str ((ref07_Number ((v.getD i.toNat AV.top).cells.getD (7 : Nat) AV.top).toInt).getD []), AV.str [(45 : UInt8)]]
noncomputable def ref55_Versions_l0_t {T : Type} (l : List AV) (v : List AV) (head_n : Nat) (rows_n : Nat) (i : Int) (head_xs : List AV) (rows_xs : List AV) (δ : T) (κl : (Nat × Int × List AV × List AV) → T) (κr : (Nat × List AV × List AV) → T) : T := br (decide (i < (↑v.length : Int))) (br (ref55_Versions_l0_v2 v i) (br (ref55_Versions_l0_v9 v i && hasSh1 (Sh.int IntKind.i64) ((v.getD i.toNat AV.top).cells.getD (0 : Nat) AV.top)) (br ((ref07_Number ((v.getD i.toNat AV.top).cells.getD (0 : Nat) AV.top).toInt).isSome) (br (ref55_Versions_l0_v2 v i) (br (ref55_Versions_l0_v9 v i && hasSh1 (Sh.list (3 : Nat)) ((v.getD i.toNat AV.top).cells.getD (2 : Nat) AV.top)) (br ((ref55_cells_M ((v.getD i.toNat AV.top).cells.getD (2 : Nat) AV.top).toList (↑l.length : Int)).isSome) (br (decide ((0 : Nat) + ((ref55_cells_M ((v.getD i.toNat AV.top).cells.getD (2 : Nat) AV.top).toList (↑l.length : Int)).getD ((0 : Nat), [])).fst ≤ ((ref55_cells_M ((v.getD i.toNat AV.top).cells.getD (2 : Nat) AV.top).toList (↑l.length : Int)).getD ((0 : Nat), [])).snd.length) && (decide (ref55_Versions_l0_v1 l v i * (16 : Nat) ≤ (140737488355328 : Nat)) && decide (ref55_Versions_l0_v1 l v i ≤ (4611686018427387904 : Nat)))) (br (ref55_Versions_l0_v2 v i) (br (ref55_Versions_l0_v9 v i && hasSh1 (Sh.int IntKind.i64) ((v.getD i.toNat AV.top).cells.getD (8 : Nat) AV.top)) (br (((v.getD i.toNat AV.top).cells.getD (8 : Nat) AV.top).toInt != (0 : Int)) (br (ref55_Versions_l0_v2 v i) (br (ref55_Versions_l0_v9 v i && hasSh1 (Sh.int IntKind.i64) ((v.getD i.toNat AV.top).cells.getD (8 : Nat) AV.top)) (br ((ref07_Number ((v.getD i.toNat AV.top).cells.getD (8 : Nat) AV.top).toInt).isSome) (br (ref55_Versions_l0_v2 v i) (br (ref55_Versions_l0_v8 v i) (br ((ref01_Text ((v.getD i.toNat AV.top).cells.getD (3 : Nat) AV.top).toInt ((v.getD i.toNat AV.top).cells.getD (4 : Nat) AV.top).toInt).isSome) (br (ref55_Versions_l0_v2 v i) (br (ref55_Versions_l0_v7 v i) (br ((ref01_Text ((v.getD i.toNat AV.top).cells.getD (5 : Nat) AV.top).toInt ((v.getD i.toNat AV.top).cells.getD (6 : Nat) AV.top).toInt).isSome) (br (ref55_Versions_l0_v2 v i) (br (ref55_Versions_l0_v9 v i && hasSh1 (Sh.int IntKind.i64) ((v.getD i.toNat AV.top).cells.getD (7 : Nat) AV.top)) (br ((ref07_Number ((v.getD i.toNat AV.top).cells.getD (7 : Nat) AV.top).toInt).isSome) (br (ref55_Versions_l0_v1 l v i == (ref55_Versions_l0_v5 l v i).length && (decide (ref55_Versions_l0_v0 l v i * (16 : Nat) ≤ (140737488355328 : Nat)) && decide (ref55_Versions_l0_v0 l v i ≤ (4611686018427387904 : Nat)))) (br (decide ((0 : Nat) + ref55_Versions_l0_v0 l v i ≤ (ref55_Versions_l0_v3 l v i).length) && true) (br (rows_n == rows_xs.length && (decide ((rows_n + (1 : Nat)) * (24 : Nat) ≤ (140737488355328 : Nat)) && decide (rows_n + (1 : Nat) ≤ (4611686018427387904 : Nat)))) (κl (rows_n + (1 : Nat), IntKind.i64.wrap (i + (1 : Int)), head_xs, rows_xs ++ [AV.list (1 : Nat) (List.take (ref55_Versions_l0_v0 l v i) (List.drop (0 : Nat) (ref55_Versions_l0_v3 l v i)))])) (δ)) (δ)) (δ)) (δ)) (δ)) (δ)) (δ)) (δ)) (δ)) (δ)) (δ)) (δ)) (δ)) (δ)) (δ)) (br (ref55_Versions_l0_v2 v i) (br (ref55_Versions_l0_v8 v i) (br ((ref01_Text ((v.getD i.toNat AV.top).cells.getD (3 : Nat) AV.top).toInt ((v.getD i.toNat AV.top).cells.getD (4 : Nat) AV.top).toInt).isSome) (br (ref55_Versions_l0_v2 v i) (br (ref55_Versions_l0_v7 v i) (br ((ref01_Text ((v.getD i.toNat AV.top).cells.getD (5 : Nat) AV.top).toInt ((v.getD i.toNat AV.top).cells.getD (6 : Nat) AV.top).toInt).isSome) (br (ref55_Versions_l0_v2 v i) (br (ref55_Versions_l0_v9 v i && hasSh1 (Sh.int IntKind.i64) ((v.getD i.toNat AV.top).cells.getD (7 : Nat) AV.top)) (br ((ref07_Number ((v.getD i.toNat AV.top).cells.getD (7 : Nat) AV.top).toInt).isSome) (br (ref55_Versions_l0_v1 l v i == (ref55_Versions_l0_v5 l v i).length && (decide (ref55_Versions_l0_v0 l v i * (16 : Nat) ≤ (140737488355328 : Nat)) && decide (ref55_Versions_l0_v0 l v i ≤ (4611686018427387904 : Nat)))) (br (decide ((0 : Nat) + ref55_Versions_l0_v0 l v i ≤ (ref55_Versions_l0_v4 l v i).length) && true) (br (rows_n == rows_xs.length && (decide ((rows_n + (1 : Nat)) * (24 : Nat) ≤ (140737488355328 : Nat)) && decide (rows_n + (1 : Nat) ≤ (4611686018427387904 : Nat)))) (κl (rows_n + (1 : Nat), IntKind.i64.wrap (i + (1 : Int)), head_xs, rows_xs ++ [AV.list (1 : Nat) (List.take (ref55_Versions_l0_v0 l v i) (List.drop (0 : Nat) (ref55_Versions_l0_v4 l v i)))])) (δ)) (δ)) (δ)) (δ)) (δ)) (δ)) (δ)) (δ)) (δ)) (δ)) (δ)) (δ))) (δ)) (δ)) (δ)) (δ)) (δ)) (δ)) (δ)) (δ)) (δ)) (κr (rows_n, head_xs, rows_xs))
noncomputable def ref55_Versions_l0_step (l : List AV) (v : List AV) (head_n : Nat) : (Nat × Int × List AV × List AV) → Option ((Nat × Int × List AV × List AV) ⊕ (Nat × List AV × List AV)) := fun (rows_n, i, head_xs, rows_xs) => ref55_Versions_l0_t l v head_n rows_n i head_xs rows_xs none (fun s => some (.inl s)) (fun p => some (.inr p))
noncomputable def ref55_Versions_l0_L (l : List AV) (v : List AV) (head_n : Nat) : (Nat × Int × List AV × List AV) → List AV × List Box := fun (rows_n, i, head_xs, rows_xs) => ([AV.list (3 : Nat) l, AV.list (9 : Nat) v, AV.osl 0 0 0 head_n, AV.osl 1 0 0 rows_n, AV.int IntKind.i64 i], [⟨0, (1 : Nat), (9 : Nat), head_xs, false, true⟩, ⟨0, (1 : Nat), (59 : Nat), rows_xs, false, true⟩])
noncomputable def ref55_Versions_l0_out (l : List AV) (v : List AV) (head_n : Nat) : (Nat × List AV × List AV) → LR := fun p => (.leaf (Exit.exit (0 : Nat)) [AV.osl 0 0 0 head_n, AV.osl 1 0 0 p.1] [⟨0, (1 : Nat), (9 : Nat), p.2.1, false, true⟩, ⟨0, (1 : Nat), (59 : Nat), p.2.2, false, true⟩])
noncomputable abbrev ref55_Versions_l0_X (vals : List AV) (H : List Box) := XR Tryz.prog ref55_Versions_E0 [0, 1, 5, 6, 7] [5, 6] [(5, 1, 9), (6, 1, 59)] (loopAt Tryz.f18 0) vals H
theorem ref55_Versions_l0_r (l : List AV) (v : List AV) (head_n : Nat) (s : Nat × Int × List AV × List AV) : Enc (encR (ref55_Versions_l0_L l v head_n) (ref55_Versions_l0_out l v head_n)) (ref55_Versions_l0_step l v head_n s) (ref55_Versions_l0_X (ref55_Versions_l0_L l v head_n s).1 (ref55_Versions_l0_L l v head_n s).2) := by
  obtain ⟨rows_n, i, head_xs, rows_xs⟩ := s
  have h : ref55_Versions_l0_X (ref55_Versions_l0_L l v head_n (rows_n, i, head_xs, rows_xs)).1 (ref55_Versions_l0_L l v head_n (rows_n, i, head_xs, rows_xs)).2 = ref55_Versions_l0_t l v head_n rows_n i head_xs rows_xs none (fun s => some (encR (ref55_Versions_l0_L l v head_n) (ref55_Versions_l0_out l v head_n) (.inl s))) (fun p => some (encR (ref55_Versions_l0_L l v head_n) (ref55_Versions_l0_out l v head_n) (.inr p))) := by kernel_rfl
  rw [h]; unfold ref55_Versions_l0_step ref55_Versions_l0_t; repeat' (first | exact Enc.none | exact Enc.some rfl | refine Enc.br ?_ ?_)
noncomputable def ref55_Versions_l0_lp : Lp := lpOf [0, 1, 5, 6, 7] [5, 6] [(5, 1, 9), (6, 1, 59)] (pCons (pList (3 : Nat) pAny) (pCons (pList (9 : Nat) pAny) (pCons (pOsl (0 : Nat) (0 : Nat) (0 : Nat)) (pCons (pOsl (1 : Nat) (0 : Nat) (0 : Nat)) (pCons (pInt IntKind.i64) pNil))))) (pCons (pBox (0 : Nat) (1 : Nat) (9 : Nat) false true pAny) (pCons (pBox (0 : Nat) (1 : Nat) (59 : Nat) false true pAny) pNil)) fun (l, (v, (head_n, (rows_n, (i, _))))) (head_xs, (rows_xs, _)) => ((Iter (ref55_Versions_l0_step l v head_n) (rows_n, i, head_xs, rows_xs)).isSome, ref55_Versions_l0_out l v head_n ((Iter (ref55_Versions_l0_step l v head_n) (rows_n, i, head_xs, rows_xs)).getD (0, [], [])))
theorem ref55_Versions_l0_lok : LoopOk Tryz.prog (ITryz.at ref55_Versions_E0.pin) ref55_Versions_E0.nt (loopAt Tryz.f18 0) ref55_Versions_l0_lp := lok_of fun vv bb rr hh => by
  obtain ⟨l, ⟨v, ⟨head_n, ⟨rows_n, ⟨i, _⟩⟩⟩⟩⟩ := vv
  obtain ⟨head_xs, ⟨rows_xs, _⟩⟩ := bb
  obtain ⟨hh1, rfl⟩ := Prod.mk.inj hh
  exact loop_of_XR mxTryz (inv0Ok Tryz.prog _) rfl ref55_Versions_E0_ok ref55_Versions_E0_lk18_0 (ref55_Versions_l0_L l v head_n) (ref55_Versions_l0_out l v head_n) (fun p => by simp only [ref55_Versions_l0_out, LR.eval]; first | (simp; done) | (repeat' split <;> simp)) (ref55_Versions_l0_r l v head_n) (s := (rows_n, i, head_xs, rows_xs)) (getD_of_isSome hh1)


/-- The environment of bitemporal/bitemporalref55.Versions: its loops so far. -/

noncomputable def ref55_Versions_E1 : Env := EK7.fn 83 0 (lsOf [59]) (lpsOf [(6, ref55_Versions_l0_lp)])

theorem ref55_Versions_E1_ok : OrcOk Tryz.prog (ITryz.at 0) ref55_Versions_E1 := EK7_ok.fn

theorem ref55_Versions_E1_lk18 : LoOk Tryz.prog (ITryz.at ref55_Versions_E1.pin) ref55_Versions_E1 (Tryz.f18.body.getD .skip) := loOk_all (ls := [loopAt Tryz.f18 0]) (by kernel_rfl) (fun l hl lp hs => by
  simp only [List.mem_cons, List.not_mem_nil, or_false] at hl
  rcases hl with rfl
  · rw [show ref55_Versions_E1.lp (codeId (loopAt Tryz.f18 0)) = some ref55_Versions_l0_lp by kernel_rfl] at hs
    simp only [Option.some.injEq] at hs; subst hs; exact ref55_Versions_l0_lok)

/- 13 nodes -/
noncomputable def ref55_Versions_v10 (l : List AV) : List AV := List.take ((ref55_names_M l).getD ((0 : Nat), [])).fst (List.drop (0 : Nat) ((ref55_names_M l).getD ((0 : Nat), [])).snd)
noncomputable def ref55_Versions_v8 (l : List AV) : Nat := (1 : Nat) + (ref55_Versions_v10 l).length
noncomputable def ref55_Versions_v9 (l : List AV) : List AV := [AV.str [(105 : UInt8), (100 : UInt8)]] ++ ref55_Versions_v10 l
noncomputable def ref55_Versions_v7 (l : List AV) : Nat := ref55_Versions_v8 l + (4 : Nat)
noncomputable def ref55_Versions_v6 (l : List AV) (v : List AV) : Option (Nat × List AV × List AV) := Iter (ref55_Versions_l0_step l v (ref55_Versions_v7 l)) ((0 : Nat), (0 : Int), ref55_Versions_v9 l ++ [AV.str [(118 : UInt8), (97 : UInt8), (108 : UInt8), (105 : UInt8), (100 : UInt8)], AV.str [(115 : UInt8), (121 : UInt8), (115 : UInt8), (116 : UInt8), (101 : UInt8), (109 : UInt8)], AV.str [(98 : UInt8), (121 : UInt8)], AV.str [(117 : UInt8), (110 : UInt8), (116 : UInt8), (105 : UInt8), (108 : UInt8)]], [])
noncomputable def ref55_Versions_v5 (l : List AV) (v : List AV) : Nat × List AV × List AV := (ref55_Versions_v6 l v).getD ((0 : Nat), [], [])
noncomputable def ref55_Versions_v3 (l : List AV) (v : List AV) : List AV × List AV := (ref55_Versions_v5 l v).snd
noncomputable def ref55_Versions_v4 (l : List AV) (v : List AV) : Nat := (ref55_Versions_v5 l v).fst
noncomputable def ref55_Versions_v1 (l : List AV) (v : List AV) : List AV := (ref55_Versions_v3 l v).snd
noncomputable def ref55_Versions_v2 (l : List AV) (v : List AV) : List AV := (ref55_Versions_v3 l v).fst
noncomputable def ref55_Versions_v0 (l : List AV) (v : List AV) : Option (List UInt8) := ref55_table (List.take (ref55_Versions_v7 l) (List.drop (0 : Nat) (ref55_Versions_v2 l v))) (List.take (ref55_Versions_v4 l v) (List.drop (0 : Nat) (ref55_Versions_v1 l v)))
noncomputable def ref55_Versions_t {T : Type} (l : List AV) (v : List AV) (δ : T) (κ : List UInt8 → T) : T := br ((ref55_names_M l).isSome) (br (decide ((0 : Nat) + ((ref55_names_M l).getD ((0 : Nat), [])).fst ≤ ((ref55_names_M l).getD ((0 : Nat), [])).snd.length) && (decide (ref55_Versions_v8 l * (16 : Nat) ≤ (140737488355328 : Nat)) && decide (ref55_Versions_v8 l ≤ (4611686018427387904 : Nat)))) (br (ref55_Versions_v8 l == (ref55_Versions_v9 l).length && (decide (ref55_Versions_v7 l * (16 : Nat) ≤ (140737488355328 : Nat)) && decide (ref55_Versions_v7 l ≤ (4611686018427387904 : Nat)))) (br ((ref55_Versions_v6 l v).isSome) (br (decide ((0 : Nat) + ref55_Versions_v7 l ≤ (ref55_Versions_v2 l v).length) && (decide ((0 : Nat) + ref55_Versions_v4 l v ≤ (ref55_Versions_v1 l v).length) && true)) (br ((ref55_Versions_v0 l v).isSome) (κ ((ref55_Versions_v0 l v).getD [])) (δ)) (δ)) (δ)) (δ)) (δ)) (δ)
noncomputable def ref55_Versions (l : List AV) (v : List AV) : Option (List UInt8) := ref55_Versions_t l v none some
theorem ref55_Versions_x (l : List AV) (v : List AV) : Enc (fun (p : List UInt8) => ((AV.str p) : AV)) (ref55_Versions l v) (XF Tryz.prog ref55_Versions_E1 Tryz.f18 (Tryz.f18.body.getD .skip) [AV.list (3 : Nat) l, AV.list (9 : Nat) v]) := by
  have h : XF Tryz.prog ref55_Versions_E1 Tryz.f18 (Tryz.f18.body.getD .skip) [AV.list (3 : Nat) l, AV.list (9 : Nat) v] = ref55_Versions_t l v none (fun (p : List UInt8) => some ((AV.str p) : AV)) := by kernel_rfl
  rw [h]; unfold ref55_Versions ref55_Versions_t; repeat' (first | exact Enc.none | exact Enc.some rfl | refine Enc.br ?_ ?_)
noncomputable def ref55_Versions_o : List AV → Option (Bool × AV) := ocOf (sCons (sList (3 : Nat) pAny) (sCons (sList (9 : Nat) pAny) sNil)) fun (l, (v, _)) => ((ref55_Versions l v).isSome, (AV.str ((ref55_Versions l v).getD [])))
theorem ref55_Versions_c : OcOk Tryz.prog ITryz 18 (ref55_Versions_o) := ocOk_of fun vv rr hh => by
  obtain ⟨l, ⟨v, _⟩⟩ := vv
  obtain ⟨hh1, hh2⟩ := Prod.mk.inj hh
  refine good_pin (p := ref55_Versions_E1.pin) (good_XF mxTryz (inv0Ok Tryz.prog _) rfl ref55_Versions_E1_ok Tryz.func18 rfl (by kernel_rfl) ref55_Versions_E1_lk18 ((ref55_Versions_x _ _ _ (getD_of_isSome (d := []) hh1)).trans ?_))
  exact congrArg some hh2


noncomputable def EK8_1 : Env := EK7.with 18 ref55_Versions_o

theorem EK8_1_ok : OrcOk Tryz.prog ITryz EK8_1 := EK7_ok.with ref55_Versions_c

/-- The environment of bitemporal/bitemporalref55.Result: its loops so far. -/

noncomputable def ref55_Result_E0 : Env := EK8_1.fn 86 0 (lsOf [59]) (lpsOf [])

theorem ref55_Result_E0_ok : OrcOk Tryz.prog (ITryz.at 0) ref55_Result_E0 := EK8_1_ok.fn

theorem ref55_Result_E0_lk12_0 : LoOk Tryz.prog (ITryz.at ref55_Result_E0.pin) ref55_Result_E0 (loopAt Tryz.f12 0) := loOk_nil (by kernel_rfl)

/- 9 nodes -/
noncomputable def ref55_Result_l0_t {T : Type} (timed : Bool) (i : Int) (r_0 : List AV) (r_1 : List AV) (r_2 : Int) (r_3 : Int) (δ : T) (κl : (Bool × Int × List AV × List AV × Int × Int) → T) (κr : (Bool × List AV × List AV × Int × Int) → T) : T := br (decide (i < (↑r_1.length : Int))) (br (timed) (κl (true, IntKind.i64.wrap (i + (1 : Int)), r_0, r_1, r_2, r_3)) (br (decide ((0 : Int) ≤ i) && decide (i < (↑r_1.length : Int))) (br (decide (i.toNat < r_1.length) && ((r_1.getD i.toNat AV.top).cells.length == (3 : Nat) && hasShs [Sh.int IntKind.i64, Sh.int IntKind.i64] (r_1.getD i.toNat AV.top).cells (1 : Nat))) (κl (!(((r_1.getD i.toNat AV.top).cells.getD (1 : Nat) AV.top).toInt == (0 : Int) && (((r_1.getD i.toNat AV.top).cells.getD (2 : Nat) AV.top).toInt == (0 : Int) && true)), IntKind.i64.wrap (i + (1 : Int)), r_0, r_1, r_2, r_3)) (δ)) (δ))) (κr (timed, r_0, r_1, r_2, r_3))
noncomputable def ref55_Result_l0_step : (Bool × Int × List AV × List AV × Int × Int) → Option ((Bool × Int × List AV × List AV × Int × Int) ⊕ (Bool × List AV × List AV × Int × Int)) := fun (timed, i, r_0, r_1, r_2, r_3) => ref55_Result_l0_t timed i r_0 r_1 r_2 r_3 none (fun s => some (.inl s)) (fun p => some (.inr p))
noncomputable def ref55_Result_l0_L : (Bool × Int × List AV × List AV × Int × Int) → List AV × List Box := fun (timed, i, r_0, r_1, r_2, r_3) => ([AV.own 0 0 0 0, AV.bool timed, AV.int IntKind.i64 i], [⟨0, (4 : Nat), (25 : Nat), [AV.agg [AV.list (3 : Nat) r_0, AV.list (3 : Nat) r_1, AV.int IntKind.i64 r_2, AV.int IntKind.i64 r_3]], false, true⟩])
noncomputable def ref55_Result_l0_out : (Bool × List AV × List AV × Int × Int) → LR := fun p => (.leaf (Exit.exit (0 : Nat)) [AV.own 0 0 0 0, AV.bool p.1] [⟨0, (4 : Nat), (25 : Nat), [AV.agg [AV.list (3 : Nat) p.2.1, AV.list (3 : Nat) p.2.2.1, AV.int IntKind.i64 p.2.2.2.1, AV.int IntKind.i64 p.2.2.2.2]], false, true⟩])
noncomputable abbrev ref55_Result_l0_X (vals : List AV) (H : List Box) := XR Tryz.prog ref55_Result_E0 [1, 3, 4] [1, 3] [] (loopAt Tryz.f12 0) vals H
theorem ref55_Result_l0_r (s : Bool × Int × List AV × List AV × Int × Int) : Enc (encR (ref55_Result_l0_L) (ref55_Result_l0_out)) (ref55_Result_l0_step s) (ref55_Result_l0_X (ref55_Result_l0_L s).1 (ref55_Result_l0_L s).2) := by
  obtain ⟨timed, i, r_0, r_1, r_2, r_3⟩ := s
  have h : ref55_Result_l0_X (ref55_Result_l0_L (timed, i, r_0, r_1, r_2, r_3)).1 (ref55_Result_l0_L (timed, i, r_0, r_1, r_2, r_3)).2 = ref55_Result_l0_t timed i r_0 r_1 r_2 r_3 none (fun s => some (encR (ref55_Result_l0_L) (ref55_Result_l0_out) (.inl s))) (fun p => some (encR (ref55_Result_l0_L) (ref55_Result_l0_out) (.inr p))) := by kernel_rfl
  rw [h]; unfold ref55_Result_l0_step ref55_Result_l0_t; repeat' (first | exact Enc.none | exact Enc.some rfl | refine Enc.br ?_ ?_)
noncomputable def ref55_Result_l0_lp : Lp := lpOf [1, 3, 4] [1, 3] [] (pCons (pOwn (0 : Nat) (0 : Nat) (0 : Nat) (0 : Nat)) (pCons pBool (pCons (pInt IntKind.i64) pNil))) (pCons (pBox (0 : Nat) (4 : Nat) (25 : Nat) false true (pCons (pAgg (pCons (pList (3 : Nat) pAny) (pCons (pList (3 : Nat) pAny) (pCons (pInt IntKind.i64) (pCons (pInt IntKind.i64) pNil))))) pNil)) pNil) fun (_, (timed, (i, _))) (((r_0, (r_1, (r_2, (r_3, _)))), _), _) => ((Iter (ref55_Result_l0_step) (timed, i, r_0, r_1, r_2, r_3)).isSome, ref55_Result_l0_out ((Iter (ref55_Result_l0_step) (timed, i, r_0, r_1, r_2, r_3)).getD (false, [], [], 0, 0)))
theorem ref55_Result_l0_lok : LoopOk Tryz.prog (ITryz.at ref55_Result_E0.pin) ref55_Result_E0.nt (loopAt Tryz.f12 0) ref55_Result_l0_lp := lok_of fun vv bb rr hh => by
  obtain ⟨_, ⟨timed, ⟨i, _⟩⟩⟩ := vv
  obtain ⟨⟨⟨r_0, ⟨r_1, ⟨r_2, ⟨r_3, _⟩⟩⟩⟩, _⟩, _⟩ := bb
  obtain ⟨hh1, rfl⟩ := Prod.mk.inj hh
  exact loop_of_XR mxTryz (inv0Ok Tryz.prog _) rfl ref55_Result_E0_ok ref55_Result_E0_lk12_0 (ref55_Result_l0_L) (ref55_Result_l0_out) (fun p => by simp only [ref55_Result_l0_out, LR.eval]; first | (simp; done) | (repeat' split <;> simp)) (ref55_Result_l0_r) (s := (timed, i, r_0, r_1, r_2, r_3)) (getD_of_isSome hh1)


/-- The environment of bitemporal/bitemporalref55.Result: its loops so far. -/

noncomputable def ref55_Result_E1 : Env := EK8_1.fn 86 0 (lsOf [59]) (lpsOf [(5, ref55_Result_l0_lp)])

theorem ref55_Result_E1_ok : OrcOk Tryz.prog (ITryz.at 0) ref55_Result_E1 := EK8_1_ok.fn

theorem ref55_Result_E1_lk12_1 : LoOk Tryz.prog (ITryz.at ref55_Result_E1.pin) ref55_Result_E1 (loopAt Tryz.f12 1) := loOk_nil (by kernel_rfl)

/- 27 nodes -/
noncomputable def ref55_Result_l1_v1 (i : Int) (r_0 : List AV) (r_1 : List AV) : Nat := ((ref55_cells_M ((r_1.getD i.toNat AV.top).cells.getD (0 : Nat) AV.top).toList (↑r_0.length : Int)).getD ((0 : Nat), [])).fst
noncomputable def ref55_Result_l1_v3 (i : Int) (r_0 : List AV) (r_1 : List AV) : List AV := ((ref55_cells_M ((r_1.getD i.toNat AV.top).cells.getD (0 : Nat) AV.top).toList (↑r_0.length : Int)).getD ((0 : Nat), [])).snd
noncomputable def ref55_Result_l1_v0 (i : Int) (r_0 : List AV) (r_1 : List AV) : Nat := ref55_Result_l1_v1 i r_0 r_1 + (1 : Nat)
noncomputable def ref55_Result_l1_v2 (i : Int) (r_0 : List AV) (r_1 : List AV) : List AV := ref55_Result_l1_v3 i r_0 r_1 ++ [AV.str ((ref01_Text ((r_1.getD i.toNat AV.top).cells.getD (1 : Nat) AV.top).toInt ((r_1.getD i.toNat AV.top).cells.getD (2 : Nat) AV.top).toInt).getD [])]
noncomputable def ref55_Result_l1_t {T : Type} (timed : Bool) (head_n : Nat) (rows_n : Nat) (i : Int) (r_0 : List AV) (r_1 : List AV) (r_2 : Int) (r_3 : Int) (head_xs : List AV) (rows_xs : List AV) (δ : T) (κl : (Nat × Int × List AV × List AV × Int × Int × List AV × List AV) → T) (κr : (Nat × List AV × List AV) → T) : T := br (decide (i < (↑r_1.length : Int))) (br (decide ((0 : Int) ≤ i) && decide (i < (↑r_1.length : Int))) (br (decide (i.toNat < r_1.length) && hasSh1 (Sh.list (3 : Nat)) ((r_1.getD i.toNat AV.top).cells.getD (0 : Nat) AV.top)) (br ((ref55_cells_M ((r_1.getD i.toNat AV.top).cells.getD (0 : Nat) AV.top).toList (↑r_0.length : Int)).isSome) (br (timed) (br (decide ((0 : Int) ≤ i) && decide (i < (↑r_1.length : Int))) (br (decide (i.toNat < r_1.length) && ((r_1.getD i.toNat AV.top).cells.length == (3 : Nat) && hasShs [Sh.int IntKind.i64, Sh.int IntKind.i64] (r_1.getD i.toNat AV.top).cells (1 : Nat))) (br ((ref01_Text ((r_1.getD i.toNat AV.top).cells.getD (1 : Nat) AV.top).toInt ((r_1.getD i.toNat AV.top).cells.getD (2 : Nat) AV.top).toInt).isSome) (br (ref55_Result_l1_v1 i r_0 r_1 == (ref55_Result_l1_v3 i r_0 r_1).length && (decide (ref55_Result_l1_v0 i r_0 r_1 * (16 : Nat) ≤ (140737488355328 : Nat)) && decide (ref55_Result_l1_v0 i r_0 r_1 ≤ (4611686018427387904 : Nat)))) (br (decide ((0 : Nat) + ref55_Result_l1_v0 i r_0 r_1 ≤ (ref55_Result_l1_v2 i r_0 r_1).length) && true) (br (rows_n == rows_xs.length && (decide ((rows_n + (1 : Nat)) * (24 : Nat) ≤ (140737488355328 : Nat)) && decide (rows_n + (1 : Nat) ≤ (4611686018427387904 : Nat)))) (κl (rows_n + (1 : Nat), IntKind.i64.wrap (i + (1 : Int)), r_0, r_1, r_2, r_3, head_xs, rows_xs ++ [AV.list (1 : Nat) (List.take (ref55_Result_l1_v0 i r_0 r_1) (List.drop (0 : Nat) (ref55_Result_l1_v2 i r_0 r_1)))])) (δ)) (δ)) (δ)) (δ)) (δ)) (δ)) (br (decide ((0 : Nat) + ref55_Result_l1_v1 i r_0 r_1 ≤ (ref55_Result_l1_v3 i r_0 r_1).length) && true) (br (rows_n == rows_xs.length && (decide ((rows_n + (1 : Nat)) * (24 : Nat) ≤ (140737488355328 : Nat)) && decide (rows_n + (1 : Nat) ≤ (4611686018427387904 : Nat)))) (κl (rows_n + (1 : Nat), IntKind.i64.wrap (i + (1 : Int)), r_0, r_1, r_2, r_3, head_xs, rows_xs ++ [AV.list (1 : Nat) (List.take (ref55_Result_l1_v1 i r_0 r_1) (List.drop (0 : Nat) (ref55_Result_l1_v3 i r_0 r_1)))])) (δ)) (δ))) (δ)) (δ)) (δ)) (κr (rows_n, head_xs, rows_xs))
noncomputable def ref55_Result_l1_step (timed : Bool) (head_n : Nat) : (Nat × Int × List AV × List AV × Int × Int × List AV × List AV) → Option ((Nat × Int × List AV × List AV × Int × Int × List AV × List AV) ⊕ (Nat × List AV × List AV)) := fun (rows_n, i, r_0, r_1, r_2, r_3, head_xs, rows_xs) => ref55_Result_l1_t timed head_n rows_n i r_0 r_1 r_2 r_3 head_xs rows_xs none (fun s => some (.inl s)) (fun p => some (.inr p))
noncomputable def ref55_Result_l1_L (timed : Bool) (head_n : Nat) : (Nat × Int × List AV × List AV × Int × Int × List AV × List AV) → List AV × List Box := fun (rows_n, i, r_0, r_1, r_2, r_3, head_xs, rows_xs) => ([AV.own 0 0 0 0, AV.bool timed, AV.osl 1 0 0 head_n, AV.osl 2 0 0 rows_n, AV.int IntKind.i64 i], [⟨0, (4 : Nat), (25 : Nat), [AV.agg [AV.list (3 : Nat) r_0, AV.list (3 : Nat) r_1, AV.int IntKind.i64 r_2, AV.int IntKind.i64 r_3]], false, true⟩, ⟨0, (1 : Nat), (9 : Nat), head_xs, false, true⟩, ⟨0, (1 : Nat), (59 : Nat), rows_xs, false, true⟩])
noncomputable def ref55_Result_l1_out (timed : Bool) (head_n : Nat) : (Nat × List AV × List AV) → LR := fun p => (.leaf (Exit.exit (2 : Nat)) [AV.osl 0 0 0 head_n, AV.osl 1 0 0 p.1] [⟨0, (1 : Nat), (9 : Nat), p.2.1, false, true⟩, ⟨0, (1 : Nat), (59 : Nat), p.2.2, false, true⟩])
noncomputable abbrev ref55_Result_l1_X (vals : List AV) (H : List Box) := XR Tryz.prog ref55_Result_E1 [1, 3, 5, 6, 7] [5, 6] [(5, 1, 9), (6, 1, 59)] (loopAt Tryz.f12 1) vals H
theorem ref55_Result_l1_r (timed : Bool) (head_n : Nat) (s : Nat × Int × List AV × List AV × Int × Int × List AV × List AV) : Enc (encR (ref55_Result_l1_L timed head_n) (ref55_Result_l1_out timed head_n)) (ref55_Result_l1_step timed head_n s) (ref55_Result_l1_X (ref55_Result_l1_L timed head_n s).1 (ref55_Result_l1_L timed head_n s).2) := by
  obtain ⟨rows_n, i, r_0, r_1, r_2, r_3, head_xs, rows_xs⟩ := s
  have h : ref55_Result_l1_X (ref55_Result_l1_L timed head_n (rows_n, i, r_0, r_1, r_2, r_3, head_xs, rows_xs)).1 (ref55_Result_l1_L timed head_n (rows_n, i, r_0, r_1, r_2, r_3, head_xs, rows_xs)).2 = ref55_Result_l1_t timed head_n rows_n i r_0 r_1 r_2 r_3 head_xs rows_xs none (fun s => some (encR (ref55_Result_l1_L timed head_n) (ref55_Result_l1_out timed head_n) (.inl s))) (fun p => some (encR (ref55_Result_l1_L timed head_n) (ref55_Result_l1_out timed head_n) (.inr p))) := by kernel_rfl
  rw [h]; unfold ref55_Result_l1_step ref55_Result_l1_t; repeat' (first | exact Enc.none | exact Enc.some rfl | refine Enc.br ?_ ?_)
noncomputable def ref55_Result_l1_lp : Lp := lpOf [1, 3, 5, 6, 7] [5, 6] [(5, 1, 9), (6, 1, 59)] (pCons (pOwn (0 : Nat) (0 : Nat) (0 : Nat) (0 : Nat)) (pCons pBool (pCons (pOsl (1 : Nat) (0 : Nat) (0 : Nat)) (pCons (pOsl (2 : Nat) (0 : Nat) (0 : Nat)) (pCons (pInt IntKind.i64) pNil))))) (pCons (pBox (0 : Nat) (4 : Nat) (25 : Nat) false true (pCons (pAgg (pCons (pList (3 : Nat) pAny) (pCons (pList (3 : Nat) pAny) (pCons (pInt IntKind.i64) (pCons (pInt IntKind.i64) pNil))))) pNil)) (pCons (pBox (0 : Nat) (1 : Nat) (9 : Nat) false true pAny) (pCons (pBox (0 : Nat) (1 : Nat) (59 : Nat) false true pAny) pNil))) fun (_, (timed, (head_n, (rows_n, (i, _))))) (((r_0, (r_1, (r_2, (r_3, _)))), _), (head_xs, (rows_xs, _))) => ((Iter (ref55_Result_l1_step timed head_n) (rows_n, i, r_0, r_1, r_2, r_3, head_xs, rows_xs)).isSome, ref55_Result_l1_out timed head_n ((Iter (ref55_Result_l1_step timed head_n) (rows_n, i, r_0, r_1, r_2, r_3, head_xs, rows_xs)).getD (0, [], [])))
theorem ref55_Result_l1_lok : LoopOk Tryz.prog (ITryz.at ref55_Result_E1.pin) ref55_Result_E1.nt (loopAt Tryz.f12 1) ref55_Result_l1_lp := lok_of fun vv bb rr hh => by
  obtain ⟨_, ⟨timed, ⟨head_n, ⟨rows_n, ⟨i, _⟩⟩⟩⟩⟩ := vv
  obtain ⟨⟨⟨r_0, ⟨r_1, ⟨r_2, ⟨r_3, _⟩⟩⟩⟩, _⟩, ⟨head_xs, ⟨rows_xs, _⟩⟩⟩ := bb
  obtain ⟨hh1, rfl⟩ := Prod.mk.inj hh
  exact loop_of_XR mxTryz (inv0Ok Tryz.prog _) rfl ref55_Result_E1_ok ref55_Result_E1_lk12_1 (ref55_Result_l1_L timed head_n) (ref55_Result_l1_out timed head_n) (fun p => by simp only [ref55_Result_l1_out, LR.eval]; first | (simp; done) | (repeat' split <;> simp)) (ref55_Result_l1_r timed head_n) (s := (rows_n, i, r_0, r_1, r_2, r_3, head_xs, rows_xs)) (getD_of_isSome hh1)


/-- The environment of bitemporal/bitemporalref55.Result: its loops so far. -/

noncomputable def ref55_Result_E2 : Env := EK8_1.fn 86 0 (lsOf [59]) (lpsOf [(5, ref55_Result_l0_lp), (13, ref55_Result_l1_lp)])

theorem ref55_Result_E2_ok : OrcOk Tryz.prog (ITryz.at 0) ref55_Result_E2 := EK8_1_ok.fn

theorem ref55_Result_E2_lk12 : LoOk Tryz.prog (ITryz.at ref55_Result_E2.pin) ref55_Result_E2 (Tryz.f12.body.getD .skip) := loOk_all (ls := [loopAt Tryz.f12 0, loopAt Tryz.f12 1]) (by kernel_rfl) (fun l hl lp hs => by
  simp only [List.mem_cons, List.not_mem_nil, or_false] at hl
  rcases hl with rfl | rfl
  · rw [show ref55_Result_E2.lp (codeId (loopAt Tryz.f12 0)) = some ref55_Result_l0_lp by kernel_rfl] at hs
    simp only [Option.some.injEq] at hs; subst hs; exact ref55_Result_l0_lok
  · rw [show ref55_Result_E2.lp (codeId (loopAt Tryz.f12 1)) = some ref55_Result_l1_lp by kernel_rfl] at hs
    simp only [Option.some.injEq] at hs; subst hs; exact ref55_Result_l1_lok)

/- 61 nodes -/
noncomputable def ref55_Result_v36 (r_c : List AV) (r_fs : List AV) (r_n : Int) (r_tm : Int) : Option (Bool × List AV × List AV × Int × Int) := Iter ref55_Result_l0_step (false, (0 : Int), r_c, r_fs, r_n, r_tm)
noncomputable def ref55_Result_v35 (r_c : List AV) (r_fs : List AV) (r_n : Int) (r_tm : Int) : Bool × List AV × List AV × Int × Int := (ref55_Result_v36 r_c r_fs r_n r_tm).getD (false, [], [], (0 : Int), (0 : Int))
noncomputable def ref55_Result_v28 (r_c : List AV) (r_fs : List AV) (r_n : Int) (r_tm : Int) : Bool := (ref55_Result_v35 r_c r_fs r_n r_tm).fst
noncomputable def ref55_Result_v34 (r_c : List AV) (r_fs : List AV) (r_n : Int) (r_tm : Int) : List AV × List AV × Int × Int := (ref55_Result_v35 r_c r_fs r_n r_tm).snd
noncomputable def ref55_Result_v27 (r_c : List AV) (r_fs : List AV) (r_n : Int) (r_tm : Int) : List AV := (ref55_Result_v34 r_c r_fs r_n r_tm).fst
noncomputable def ref55_Result_v33 (r_c : List AV) (r_fs : List AV) (r_n : Int) (r_tm : Int) : List AV × Int × Int := (ref55_Result_v34 r_c r_fs r_n r_tm).snd
noncomputable def ref55_Result_v25 (r_c : List AV) (r_fs : List AV) (r_n : Int) (r_tm : Int) : Nat := ((ref55_names_M (ref55_Result_v27 r_c r_fs r_n r_tm)).getD ((0 : Nat), [])).fst
noncomputable def ref55_Result_v26 (r_c : List AV) (r_fs : List AV) (r_n : Int) (r_tm : Int) : List AV := ((ref55_names_M (ref55_Result_v27 r_c r_fs r_n r_tm)).getD ((0 : Nat), [])).snd
noncomputable def ref55_Result_v31 (r_c : List AV) (r_fs : List AV) (r_n : Int) (r_tm : Int) : Int × Int := (ref55_Result_v33 r_c r_fs r_n r_tm).snd
noncomputable def ref55_Result_v32 (r_c : List AV) (r_fs : List AV) (r_n : Int) (r_tm : Int) : List AV := (ref55_Result_v33 r_c r_fs r_n r_tm).fst
noncomputable def ref55_Result_v24 (r_c : List AV) (r_fs : List AV) (r_n : Int) (r_tm : Int) : Nat := ref55_Result_v25 r_c r_fs r_n r_tm + (1 : Nat)
noncomputable def ref55_Result_v29 (r_c : List AV) (r_fs : List AV) (r_n : Int) (r_tm : Int) : Int := (ref55_Result_v31 r_c r_fs r_n r_tm).snd
noncomputable def ref55_Result_v30 (r_c : List AV) (r_fs : List AV) (r_n : Int) (r_tm : Int) : Int := (ref55_Result_v31 r_c r_fs r_n r_tm).fst
noncomputable def ref55_Result_v18 (r_c : List AV) (r_fs : List AV) (r_n : Int) (r_tm : Int) : Option (Nat × List AV × List AV) := Iter (ref55_Result_l1_step (ref55_Result_v28 r_c r_fs r_n r_tm) (ref55_Result_v24 r_c r_fs r_n r_tm)) ((0 : Nat), (0 : Int), ref55_Result_v27 r_c r_fs r_n r_tm, ref55_Result_v32 r_c r_fs r_n r_tm, ref55_Result_v30 r_c r_fs r_n r_tm, ref55_Result_v29 r_c r_fs r_n r_tm, ref55_Result_v26 r_c r_fs r_n r_tm ++ [AV.str [(118 : UInt8), (97 : UInt8), (108 : UInt8), (105 : UInt8), (100 : UInt8)]], [])
noncomputable def ref55_Result_v23 (r_c : List AV) (r_fs : List AV) (r_n : Int) (r_tm : Int) : Option (Nat × List AV × List AV) := Iter (ref55_Result_l1_step (ref55_Result_v28 r_c r_fs r_n r_tm) (ref55_Result_v25 r_c r_fs r_n r_tm)) ((0 : Nat), (0 : Int), ref55_Result_v27 r_c r_fs r_n r_tm, ref55_Result_v32 r_c r_fs r_n r_tm, ref55_Result_v30 r_c r_fs r_n r_tm, ref55_Result_v29 r_c r_fs r_n r_tm, ref55_Result_v26 r_c r_fs r_n r_tm, [])
noncomputable def ref55_Result_v17 (r_c : List AV) (r_fs : List AV) (r_n : Int) (r_tm : Int) : Nat × List AV × List AV := (ref55_Result_v18 r_c r_fs r_n r_tm).getD ((0 : Nat), [], [])
noncomputable def ref55_Result_v22 (r_c : List AV) (r_fs : List AV) (r_n : Int) (r_tm : Int) : Nat × List AV × List AV := (ref55_Result_v23 r_c r_fs r_n r_tm).getD ((0 : Nat), [], [])
noncomputable def ref55_Result_v12 (r_c : List AV) (r_fs : List AV) (r_n : Int) (r_tm : Int) : Nat := (ref55_Result_v17 r_c r_fs r_n r_tm).fst
noncomputable def ref55_Result_v13 (r_c : List AV) (r_fs : List AV) (r_n : Int) (r_tm : Int) : Nat := (ref55_Result_v22 r_c r_fs r_n r_tm).fst
noncomputable def ref55_Result_v16 (r_c : List AV) (r_fs : List AV) (r_n : Int) (r_tm : Int) : List AV × List AV := (ref55_Result_v17 r_c r_fs r_n r_tm).snd
noncomputable def ref55_Result_v21 (r_c : List AV) (r_fs : List AV) (r_n : Int) (r_tm : Int) : List AV × List AV := (ref55_Result_v22 r_c r_fs r_n r_tm).snd
noncomputable def ref55_Result_v14 (r_c : List AV) (r_fs : List AV) (r_n : Int) (r_tm : Int) : List AV := (ref55_Result_v16 r_c r_fs r_n r_tm).snd
noncomputable def ref55_Result_v15 (r_c : List AV) (r_fs : List AV) (r_n : Int) (r_tm : Int) : List AV := (ref55_Result_v16 r_c r_fs r_n r_tm).fst
noncomputable def ref55_Result_v19 (r_c : List AV) (r_fs : List AV) (r_n : Int) (r_tm : Int) : List AV := (ref55_Result_v21 r_c r_fs r_n r_tm).fst
noncomputable def ref55_Result_v20 (r_c : List AV) (r_fs : List AV) (r_n : Int) (r_tm : Int) : List AV := (ref55_Result_v21 r_c r_fs r_n r_tm).snd
noncomputable def ref55_Result_v1 (r_c : List AV) (r_fs : List AV) (r_n : Int) (r_tm : Int) : Bool := decide ((0 : Nat) + ref55_Result_v24 r_c r_fs r_n r_tm ≤ (ref55_Result_v15 r_c r_fs r_n r_tm).length) && (decide ((0 : Nat) + ref55_Result_v12 r_c r_fs r_n r_tm ≤ (ref55_Result_v14 r_c r_fs r_n r_tm).length) && true)
noncomputable def ref55_Result_v4 (r_c : List AV) (r_fs : List AV) (r_n : Int) (r_tm : Int) : Bool := decide ((0 : Nat) + ref55_Result_v25 r_c r_fs r_n r_tm ≤ (ref55_Result_v19 r_c r_fs r_n r_tm).length) && (decide ((0 : Nat) + ref55_Result_v13 r_c r_fs r_n r_tm ≤ (ref55_Result_v20 r_c r_fs r_n r_tm).length) && true)
noncomputable def ref55_Result_v8 (r_c : List AV) (r_fs : List AV) (r_n : Int) (r_tm : Int) : Option (List UInt8) := ref55_table (List.take (ref55_Result_v24 r_c r_fs r_n r_tm) (List.drop (0 : Nat) (ref55_Result_v15 r_c r_fs r_n r_tm))) (List.take (ref55_Result_v12 r_c r_fs r_n r_tm) (List.drop (0 : Nat) (ref55_Result_v14 r_c r_fs r_n r_tm)))
noncomputable def ref55_Result_v11 (r_c : List AV) (r_fs : List AV) (r_n : Int) (r_tm : Int) : Option (List UInt8) := ref55_table (List.take (ref55_Result_v25 r_c r_fs r_n r_tm) (List.drop (0 : Nat) (ref55_Result_v19 r_c r_fs r_n r_tm))) (List.take (ref55_Result_v13 r_c r_fs r_n r_tm) (List.drop (0 : Nat) (ref55_Result_v20 r_c r_fs r_n r_tm)))
noncomputable def ref55_Result_v6 (r_c : List AV) (r_fs : List AV) (r_n : Int) (r_tm : Int) : List UInt8 := (ref55_Result_v8 r_c r_fs r_n r_tm).getD []
noncomputable def ref55_Result_v7 (r_c : List AV) (r_fs : List AV) (r_n : Int) (r_tm : Int) : Bool := (ref55_Result_v8 r_c r_fs r_n r_tm).isSome
noncomputable def ref55_Result_v9 (r_c : List AV) (r_fs : List AV) (r_n : Int) (r_tm : Int) : List UInt8 := (ref55_Result_v11 r_c r_fs r_n r_tm).getD []
noncomputable def ref55_Result_v10 (r_c : List AV) (r_fs : List AV) (r_n : Int) (r_tm : Int) : Bool := (ref55_Result_v11 r_c r_fs r_n r_tm).isSome
noncomputable def ref55_Result_v0 (r_c : List AV) (r_fs : List AV) (r_n : Int) (r_tm : Int) : Bool := decide ((ref55_Result_v6 r_c r_fs r_n r_tm).length + ((ref07_Number (↑(ref55_Result_v12 r_c r_fs r_n r_tm) : Int)).getD []).length ≤ (4611686018427387904 : Nat))
noncomputable def ref55_Result_v2 (r_c : List AV) (r_fs : List AV) (r_n : Int) (r_tm : Int) : Bool := decide ((ref55_Result_v9 r_c r_fs r_n r_tm).length + ((ref07_Number (↑(ref55_Result_v13 r_c r_fs r_n r_tm) : Int)).getD []).length ≤ (4611686018427387904 : Nat))
noncomputable def ref55_Result_v3 (r_c : List AV) (r_fs : List AV) (r_n : Int) (r_tm : Int) : List UInt8 := ref55_Result_v6 r_c r_fs r_n r_tm ++ (ref07_Number (↑(ref55_Result_v12 r_c r_fs r_n r_tm) : Int)).getD []
noncomputable def ref55_Result_v5 (r_c : List AV) (r_fs : List AV) (r_n : Int) (r_tm : Int) : List UInt8 := ref55_Result_v9 r_c r_fs r_n r_tm ++ (ref07_Number (↑(ref55_Result_v13 r_c r_fs r_n r_tm) : Int)).getD []
noncomputable def ref55_Result_t {T : Type} (r_c : List AV) (r_fs : List AV) (r_n : Int) (r_tm : Int) (δ : T) (κ : List UInt8 → T) : T := br ((↑r_c.length : Int) == (0 : Int)) (br ((ref55_done r_c r_fs r_n r_tm).isSome) (κ ((ref55_done r_c r_fs r_n r_tm).getD [])) (δ)) (br ((ref55_Result_v36 r_c r_fs r_n r_tm).isSome) (br ((ref55_names_M (ref55_Result_v27 r_c r_fs r_n r_tm)).isSome) (br (ref55_Result_v28 r_c r_fs r_n r_tm) (br (ref55_Result_v25 r_c r_fs r_n r_tm == (ref55_Result_v26 r_c r_fs r_n r_tm).length && (decide (ref55_Result_v24 r_c r_fs r_n r_tm * (16 : Nat) ≤ (140737488355328 : Nat)) && decide (ref55_Result_v24 r_c r_fs r_n r_tm ≤ (4611686018427387904 : Nat)))) (br ((ref55_Result_v18 r_c r_fs r_n r_tm).isSome) (br ((↑(ref55_Result_v12 r_c r_fs r_n r_tm) : Int) == (1 : Int)) (br (ref55_Result_v1 r_c r_fs r_n r_tm) (br (ref55_Result_v7 r_c r_fs r_n r_tm) (br ((ref07_Number (↑(ref55_Result_v12 r_c r_fs r_n r_tm) : Int)).isSome) (br (ref55_Result_v0 r_c r_fs r_n r_tm) (br (decide ((ref55_Result_v3 r_c r_fs r_n r_tm).length + (5 : Nat) ≤ (4611686018427387904 : Nat))) (κ (ref55_Result_v3 r_c r_fs r_n r_tm ++ [(32 : UInt8), (114 : UInt8), (111 : UInt8), (119 : UInt8), (10 : UInt8)])) (δ)) (δ)) (δ)) (δ)) (δ)) (br (ref55_Result_v1 r_c r_fs r_n r_tm) (br (ref55_Result_v7 r_c r_fs r_n r_tm) (br ((ref07_Number (↑(ref55_Result_v12 r_c r_fs r_n r_tm) : Int)).isSome) (br (ref55_Result_v0 r_c r_fs r_n r_tm) (br (decide ((ref55_Result_v3 r_c r_fs r_n r_tm).length + (6 : Nat) ≤ (4611686018427387904 : Nat))) (κ (ref55_Result_v3 r_c r_fs r_n r_tm ++ [(32 : UInt8), (114 : UInt8), (111 : UInt8), (119 : UInt8), (115 : UInt8), (10 : UInt8)])) (δ)) (δ)) (δ)) (δ)) (δ))) (δ)) (δ)) (br ((ref55_Result_v23 r_c r_fs r_n r_tm).isSome) (br ((↑(ref55_Result_v13 r_c r_fs r_n r_tm) : Int) == (1 : Int)) (br (ref55_Result_v4 r_c r_fs r_n r_tm) (br (ref55_Result_v10 r_c r_fs r_n r_tm) (br ((ref07_Number (↑(ref55_Result_v13 r_c r_fs r_n r_tm) : Int)).isSome) (br (ref55_Result_v2 r_c r_fs r_n r_tm) (br (decide ((ref55_Result_v5 r_c r_fs r_n r_tm).length + (5 : Nat) ≤ (4611686018427387904 : Nat))) (κ (ref55_Result_v5 r_c r_fs r_n r_tm ++ [(32 : UInt8), (114 : UInt8), (111 : UInt8), (119 : UInt8), (10 : UInt8)])) (δ)) (δ)) (δ)) (δ)) (δ)) (br (ref55_Result_v4 r_c r_fs r_n r_tm) (br (ref55_Result_v10 r_c r_fs r_n r_tm) (br ((ref07_Number (↑(ref55_Result_v13 r_c r_fs r_n r_tm) : Int)).isSome) (br (ref55_Result_v2 r_c r_fs r_n r_tm) (br (decide ((ref55_Result_v5 r_c r_fs r_n r_tm).length + (6 : Nat) ≤ (4611686018427387904 : Nat))) (κ (ref55_Result_v5 r_c r_fs r_n r_tm ++ [(32 : UInt8), (114 : UInt8), (111 : UInt8), (119 : UInt8), (115 : UInt8), (10 : UInt8)])) (δ)) (δ)) (δ)) (δ)) (δ))) (δ))) (δ)) (δ))
noncomputable def ref55_Result (r_c : List AV) (r_fs : List AV) (r_n : Int) (r_tm : Int) : Option (List UInt8) := ref55_Result_t r_c r_fs r_n r_tm none some
theorem ref55_Result_x (r_c : List AV) (r_fs : List AV) (r_n : Int) (r_tm : Int) : Enc (fun (p : List UInt8) => ((AV.str p) : AV)) (ref55_Result r_c r_fs r_n r_tm) (XF Tryz.prog ref55_Result_E2 Tryz.f12 (Tryz.f12.body.getD .skip) [AV.agg [AV.list (3 : Nat) r_c, AV.list (3 : Nat) r_fs, AV.int IntKind.i64 r_n, AV.int IntKind.i64 r_tm]]) := by
  have h : XF Tryz.prog ref55_Result_E2 Tryz.f12 (Tryz.f12.body.getD .skip) [AV.agg [AV.list (3 : Nat) r_c, AV.list (3 : Nat) r_fs, AV.int IntKind.i64 r_n, AV.int IntKind.i64 r_tm]] = ref55_Result_t r_c r_fs r_n r_tm none (fun (p : List UInt8) => some ((AV.str p) : AV)) := by kernel_rfl
  rw [h]; unfold ref55_Result ref55_Result_t; repeat' (first | exact Enc.none | exact Enc.some rfl | refine Enc.br ?_ ?_)
noncomputable def ref55_Result_o : List AV → Option (Bool × AV) := ocOf (sCons (sAgg (sCons (sList (3 : Nat) pAny) (sCons (sList (3 : Nat) pAny) (sCons (sEq (pInt IntKind.i64)) (sCons (sEq (pInt IntKind.i64)) sNil))))) sNil) fun ((r_c, (r_fs, (r_n, (r_tm, _)))), _) => ((ref55_Result r_c r_fs r_n r_tm).isSome, (AV.str ((ref55_Result r_c r_fs r_n r_tm).getD [])))
theorem ref55_Result_c : OcOk Tryz.prog ITryz 12 (ref55_Result_o) := ocOk_of fun vv rr hh => by
  obtain ⟨⟨r_c, ⟨r_fs, ⟨r_n, ⟨r_tm, _⟩⟩⟩⟩, _⟩ := vv
  obtain ⟨hh1, hh2⟩ := Prod.mk.inj hh
  refine good_pin (p := ref55_Result_E2.pin) (good_XF mxTryz (inv0Ok Tryz.prog _) rfl ref55_Result_E2_ok Tryz.func12 rfl (by kernel_rfl) ref55_Result_E2_lk12 ((ref55_Result_x _ _ _ _ _ (getD_of_isSome (d := []) hh1)).trans ?_))
  exact congrArg some hh2


noncomputable def EK8_2 : Env := EK8_1.with 12 ref55_Result_o

theorem EK8_2_ok : OrcOk Tryz.prog ITryz EK8_2 := EK8_1_ok.with ref55_Result_c

/-- The environment of bitemporal/bitemporalref55.Tame: its loops so far. -/

noncomputable def ref55_Tame_E0 : Env := EK8_2.fn 53 0 (lsOf []) (lpsOf [])

theorem ref55_Tame_E0_ok : OrcOk Tryz.prog (ITryz.at 0) ref55_Tame_E0 := EK8_2_ok.fn

theorem ref55_Tame_E0_lk8_0 : LoOk Tryz.prog (ITryz.at ref55_Tame_E0.pin) ref55_Tame_E0 (loopAt Tryz.f8 0) := loOk_nil (by kernel_rfl)

/- 7 nodes -/
noncomputable def ref55_Tame_l0_t {T : Type} (n : Int) (i : Int) (r_0 : List AV) (r_1 : List AV) (r_2 : Int) (r_3 : Int) (δ : T) (κl : (Int × Int × List AV × List AV × Int × Int) → T) (κr : (Int × List AV × List AV × Int × Int) → T) : T := br (decide (i < (↑r_0.length : Int))) (br (decide ((0 : Int) ≤ i) && decide (i < (↑r_0.length : Int))) (br (decide (i.toNat < r_0.length) && hasSh1 Sh.str ((r_0.getD i.toNat AV.top).cells.getD (0 : Nat) AV.top)) (κl (IntKind.i64.wrap (n + if (10000 : Int) < (↑((r_0.getD i.toNat AV.top).cells.getD (0 : Nat) AV.top).toStr.length : Int) then (10000 : Int) else (↑((r_0.getD i.toNat AV.top).cells.getD (0 : Nat) AV.top).toStr.length : Int)), IntKind.i64.wrap (i + (1 : Int)), r_0, r_1, r_2, r_3)) (δ)) (δ)) (κr (n, r_0, r_1, r_2, r_3))
noncomputable def ref55_Tame_l0_step : (Int × Int × List AV × List AV × Int × Int) → Option ((Int × Int × List AV × List AV × Int × Int) ⊕ (Int × List AV × List AV × Int × Int)) := fun (n, i, r_0, r_1, r_2, r_3) => ref55_Tame_l0_t n i r_0 r_1 r_2 r_3 none (fun s => some (.inl s)) (fun p => some (.inr p))
noncomputable def ref55_Tame_l0_L : (Int × Int × List AV × List AV × Int × Int) → List AV × List Box := fun (n, i, r_0, r_1, r_2, r_3) => ([AV.own 0 0 0 0, AV.int IntKind.i64 n, AV.int IntKind.i64 i], [⟨0, (4 : Nat), (25 : Nat), [AV.agg [AV.list (3 : Nat) r_0, AV.list (3 : Nat) r_1, AV.int IntKind.i64 r_2, AV.int IntKind.i64 r_3]], false, true⟩])
noncomputable def ref55_Tame_l0_out : (Int × List AV × List AV × Int × Int) → LR := fun p => (.leaf (Exit.exit (0 : Nat)) [AV.own 0 0 0 0, AV.int IntKind.i64 p.1] [⟨0, (4 : Nat), (25 : Nat), [AV.agg [AV.list (3 : Nat) p.2.1, AV.list (3 : Nat) p.2.2.1, AV.int IntKind.i64 p.2.2.2.1, AV.int IntKind.i64 p.2.2.2.2]], false, true⟩])
noncomputable abbrev ref55_Tame_l0_X (vals : List AV) (H : List Box) := XR Tryz.prog ref55_Tame_E0 [1, 3, 4] [1, 3] [] (loopAt Tryz.f8 0) vals H
theorem ref55_Tame_l0_r (s : Int × Int × List AV × List AV × Int × Int) : Enc (encR (ref55_Tame_l0_L) (ref55_Tame_l0_out)) (ref55_Tame_l0_step s) (ref55_Tame_l0_X (ref55_Tame_l0_L s).1 (ref55_Tame_l0_L s).2) := by
  obtain ⟨n, i, r_0, r_1, r_2, r_3⟩ := s
  have h : ref55_Tame_l0_X (ref55_Tame_l0_L (n, i, r_0, r_1, r_2, r_3)).1 (ref55_Tame_l0_L (n, i, r_0, r_1, r_2, r_3)).2 = ref55_Tame_l0_t n i r_0 r_1 r_2 r_3 none (fun s => some (encR (ref55_Tame_l0_L) (ref55_Tame_l0_out) (.inl s))) (fun p => some (encR (ref55_Tame_l0_L) (ref55_Tame_l0_out) (.inr p))) := by kernel_rfl
  rw [h]; unfold ref55_Tame_l0_step ref55_Tame_l0_t; repeat' (first | exact Enc.none | exact Enc.some rfl | refine Enc.br ?_ ?_)
noncomputable def ref55_Tame_l0_lp : Lp := lpOf [1, 3, 4] [1, 3] [] (pCons (pOwn (0 : Nat) (0 : Nat) (0 : Nat) (0 : Nat)) (pCons (pInt IntKind.i64) (pCons (pInt IntKind.i64) pNil))) (pCons (pBox (0 : Nat) (4 : Nat) (25 : Nat) false true (pCons (pAgg (pCons (pList (3 : Nat) pAny) (pCons (pList (3 : Nat) pAny) (pCons (pInt IntKind.i64) (pCons (pInt IntKind.i64) pNil))))) pNil)) pNil) fun (_, (n, (i, _))) (((r_0, (r_1, (r_2, (r_3, _)))), _), _) => ((Iter (ref55_Tame_l0_step) (n, i, r_0, r_1, r_2, r_3)).isSome, ref55_Tame_l0_out ((Iter (ref55_Tame_l0_step) (n, i, r_0, r_1, r_2, r_3)).getD (0, [], [], 0, 0)))
theorem ref55_Tame_l0_lok : LoopOk Tryz.prog (ITryz.at ref55_Tame_E0.pin) ref55_Tame_E0.nt (loopAt Tryz.f8 0) ref55_Tame_l0_lp := lok_of fun vv bb rr hh => by
  obtain ⟨_, ⟨n, ⟨i, _⟩⟩⟩ := vv
  obtain ⟨⟨⟨r_0, ⟨r_1, ⟨r_2, ⟨r_3, _⟩⟩⟩⟩, _⟩, _⟩ := bb
  obtain ⟨hh1, rfl⟩ := Prod.mk.inj hh
  exact loop_of_XR mxTryz (inv0Ok Tryz.prog _) rfl ref55_Tame_E0_ok ref55_Tame_E0_lk8_0 (ref55_Tame_l0_L) (ref55_Tame_l0_out) (fun p => by simp only [ref55_Tame_l0_out, LR.eval]; first | (simp; done) | (repeat' split <;> simp)) (ref55_Tame_l0_r) (s := (n, i, r_0, r_1, r_2, r_3)) (getD_of_isSome hh1)


/-- The environment of bitemporal/bitemporalref55.Tame: its loops so far. -/

noncomputable def ref55_Tame_E1 : Env := EK8_2.fn 53 0 (lsOf []) (lpsOf [(3, ref55_Tame_l0_lp)])

theorem ref55_Tame_E1_ok : OrcOk Tryz.prog (ITryz.at 0) ref55_Tame_E1 := EK8_2_ok.fn

theorem ref55_Tame_E1_lk8_1 : LoOk Tryz.prog (ITryz.at ref55_Tame_E1.pin) ref55_Tame_E1 (loopAt Tryz.f8 1) := loOk_nil (by kernel_rfl)

/- 7 nodes -/
noncomputable def ref55_Tame_l1_t {T : Type} (n : Int) (i : Int) (r_0 : List AV) (r_1 : List AV) (r_2 : Int) (r_3 : Int) (δ : T) (κl : (Int × Int × List AV × List AV × Int × Int) → T) (κr : (Int) → T) : T := br (decide (i < (↑r_1.length : Int))) (br (decide ((0 : Int) ≤ i) && decide (i < (↑r_1.length : Int))) (br (decide (i.toNat < r_1.length) && hasSh1 (Sh.list (3 : Nat)) ((r_1.getD i.toNat AV.top).cells.getD (0 : Nat) AV.top)) (κl (IntKind.i64.wrap (n + (↑((r_1.getD i.toNat AV.top).cells.getD (0 : Nat) AV.top).toList.length : Int)), IntKind.i64.wrap (i + (1 : Int)), r_0, r_1, r_2, r_3)) (δ)) (δ)) (κr (n))
noncomputable def ref55_Tame_l1_step : (Int × Int × List AV × List AV × Int × Int) → Option ((Int × Int × List AV × List AV × Int × Int) ⊕ (Int)) := fun (n, i, r_0, r_1, r_2, r_3) => ref55_Tame_l1_t n i r_0 r_1 r_2 r_3 none (fun s => some (.inl s)) (fun p => some (.inr p))
noncomputable def ref55_Tame_l1_L : (Int × Int × List AV × List AV × Int × Int) → List AV × List Box := fun (n, i, r_0, r_1, r_2, r_3) => ([AV.own 0 0 0 0, AV.int IntKind.i64 n, AV.int IntKind.i64 i], [⟨0, (4 : Nat), (25 : Nat), [AV.agg [AV.list (3 : Nat) r_0, AV.list (3 : Nat) r_1, AV.int IntKind.i64 r_2, AV.int IntKind.i64 r_3]], false, true⟩])
noncomputable def ref55_Tame_l1_out : (Int) → LR := fun p => (.leaf (Exit.exit (2 : Nat)) [AV.int IntKind.i64 p] [])
noncomputable abbrev ref55_Tame_l1_X (vals : List AV) (H : List Box) := XR Tryz.prog ref55_Tame_E1 [1, 3, 5] [3] [] (loopAt Tryz.f8 1) vals H
theorem ref55_Tame_l1_r (s : Int × Int × List AV × List AV × Int × Int) : Enc (encR (ref55_Tame_l1_L) (ref55_Tame_l1_out)) (ref55_Tame_l1_step s) (ref55_Tame_l1_X (ref55_Tame_l1_L s).1 (ref55_Tame_l1_L s).2) := by
  obtain ⟨n, i, r_0, r_1, r_2, r_3⟩ := s
  have h : ref55_Tame_l1_X (ref55_Tame_l1_L (n, i, r_0, r_1, r_2, r_3)).1 (ref55_Tame_l1_L (n, i, r_0, r_1, r_2, r_3)).2 = ref55_Tame_l1_t n i r_0 r_1 r_2 r_3 none (fun s => some (encR (ref55_Tame_l1_L) (ref55_Tame_l1_out) (.inl s))) (fun p => some (encR (ref55_Tame_l1_L) (ref55_Tame_l1_out) (.inr p))) := by kernel_rfl
  rw [h]; unfold ref55_Tame_l1_step ref55_Tame_l1_t; repeat' (first | exact Enc.none | exact Enc.some rfl | refine Enc.br ?_ ?_)
noncomputable def ref55_Tame_l1_lp : Lp := lpOf [1, 3, 5] [3] [] (pCons (pOwn (0 : Nat) (0 : Nat) (0 : Nat) (0 : Nat)) (pCons (pInt IntKind.i64) (pCons (pInt IntKind.i64) pNil))) (pCons (pBox (0 : Nat) (4 : Nat) (25 : Nat) false true (pCons (pAgg (pCons (pList (3 : Nat) pAny) (pCons (pList (3 : Nat) pAny) (pCons (pInt IntKind.i64) (pCons (pInt IntKind.i64) pNil))))) pNil)) pNil) fun (_, (n, (i, _))) (((r_0, (r_1, (r_2, (r_3, _)))), _), _) => ((Iter (ref55_Tame_l1_step) (n, i, r_0, r_1, r_2, r_3)).isSome, ref55_Tame_l1_out ((Iter (ref55_Tame_l1_step) (n, i, r_0, r_1, r_2, r_3)).getD 0))
theorem ref55_Tame_l1_lok : LoopOk Tryz.prog (ITryz.at ref55_Tame_E1.pin) ref55_Tame_E1.nt (loopAt Tryz.f8 1) ref55_Tame_l1_lp := lok_of fun vv bb rr hh => by
  obtain ⟨_, ⟨n, ⟨i, _⟩⟩⟩ := vv
  obtain ⟨⟨⟨r_0, ⟨r_1, ⟨r_2, ⟨r_3, _⟩⟩⟩⟩, _⟩, _⟩ := bb
  obtain ⟨hh1, rfl⟩ := Prod.mk.inj hh
  exact loop_of_XR mxTryz (inv0Ok Tryz.prog _) rfl ref55_Tame_E1_ok ref55_Tame_E1_lk8_1 (ref55_Tame_l1_L) (ref55_Tame_l1_out) (fun p => by simp only [ref55_Tame_l1_out, LR.eval]; first | (simp; done) | (repeat' split <;> simp)) (ref55_Tame_l1_r) (s := (n, i, r_0, r_1, r_2, r_3)) (getD_of_isSome hh1)


/-- The environment of bitemporal/bitemporalref55.Tame: its loops so far. -/

noncomputable def ref55_Tame_E2 : Env := EK8_2.fn 53 0 (lsOf []) (lpsOf [(3, ref55_Tame_l0_lp), (7, ref55_Tame_l1_lp)])

theorem ref55_Tame_E2_ok : OrcOk Tryz.prog (ITryz.at 0) ref55_Tame_E2 := EK8_2_ok.fn

theorem ref55_Tame_E2_lk8 : LoOk Tryz.prog (ITryz.at ref55_Tame_E2.pin) ref55_Tame_E2 (Tryz.f8.body.getD .skip) := loOk_all (ls := [loopAt Tryz.f8 0, loopAt Tryz.f8 1]) (by kernel_rfl) (fun l hl lp hs => by
  simp only [List.mem_cons, List.not_mem_nil, or_false] at hl
  rcases hl with rfl | rfl
  · rw [show ref55_Tame_E2.lp (codeId (loopAt Tryz.f8 0)) = some ref55_Tame_l0_lp by kernel_rfl] at hs
    simp only [Option.some.injEq] at hs; subst hs; exact ref55_Tame_l0_lok
  · rw [show ref55_Tame_E2.lp (codeId (loopAt Tryz.f8 1)) = some ref55_Tame_l1_lp by kernel_rfl] at hs
    simp only [Option.some.injEq] at hs; subst hs; exact ref55_Tame_l1_lok)

/- 5 nodes -/
noncomputable def ref55_Tame_v5 (r_c : List AV) (r_fs : List AV) (r_n : Int) (r_tm : Int) : Option (Int × List AV × List AV × Int × Int) := Iter ref55_Tame_l0_step (IntKind.i64.wrap (IntKind.i64.wrap ((↑r_fs.length : Int) * IntKind.i64.wrap ((↑r_c.length : Int) + (1 : Int))) + (↑r_c.length : Int)), (0 : Int), r_c, r_fs, r_n, r_tm)
noncomputable def ref55_Tame_v4 (r_c : List AV) (r_fs : List AV) (r_n : Int) (r_tm : Int) : Int × List AV × List AV × Int × Int := (ref55_Tame_v5 r_c r_fs r_n r_tm).getD ((0 : Int), [], [], (0 : Int), (0 : Int))
noncomputable def ref55_Tame_v3 (r_c : List AV) (r_fs : List AV) (r_n : Int) (r_tm : Int) : List AV × List AV × Int × Int := (ref55_Tame_v4 r_c r_fs r_n r_tm).snd
noncomputable def ref55_Tame_v2 (r_c : List AV) (r_fs : List AV) (r_n : Int) (r_tm : Int) : List AV × Int × Int := (ref55_Tame_v3 r_c r_fs r_n r_tm).snd
noncomputable def ref55_Tame_v1 (r_c : List AV) (r_fs : List AV) (r_n : Int) (r_tm : Int) : Int × Int := (ref55_Tame_v2 r_c r_fs r_n r_tm).snd
noncomputable def ref55_Tame_v0 (r_c : List AV) (r_fs : List AV) (r_n : Int) (r_tm : Int) : Option Int := Iter ref55_Tame_l1_step ((ref55_Tame_v4 r_c r_fs r_n r_tm).fst, (0 : Int), (ref55_Tame_v3 r_c r_fs r_n r_tm).fst, (ref55_Tame_v2 r_c r_fs r_n r_tm).fst, (ref55_Tame_v1 r_c r_fs r_n r_tm).fst, (ref55_Tame_v1 r_c r_fs r_n r_tm).snd)
noncomputable def ref55_Tame_t {T : Type} (r_c : List AV) (r_fs : List AV) (r_n : Int) (r_tm : Int) (δ : T) (κ : Bool → T) : T := br ((ref55_Tame_v5 r_c r_fs r_n r_tm).isSome) (br ((ref55_Tame_v0 r_c r_fs r_n r_tm).isSome) (κ (decide ((ref55_Tame_v0 r_c r_fs r_n r_tm).getD (0 : Int) ≤ (3000 : Int)))) (δ)) (δ)
noncomputable def ref55_Tame (r_c : List AV) (r_fs : List AV) (r_n : Int) (r_tm : Int) : Option (Bool) := ref55_Tame_t r_c r_fs r_n r_tm none some
theorem ref55_Tame_x (r_c : List AV) (r_fs : List AV) (r_n : Int) (r_tm : Int) : Enc (fun (p : Bool) => ((AV.bool p) : AV)) (ref55_Tame r_c r_fs r_n r_tm) (XF Tryz.prog ref55_Tame_E2 Tryz.f8 (Tryz.f8.body.getD .skip) [AV.agg [AV.list (3 : Nat) r_c, AV.list (3 : Nat) r_fs, AV.int IntKind.i64 r_n, AV.int IntKind.i64 r_tm]]) := by
  have h : XF Tryz.prog ref55_Tame_E2 Tryz.f8 (Tryz.f8.body.getD .skip) [AV.agg [AV.list (3 : Nat) r_c, AV.list (3 : Nat) r_fs, AV.int IntKind.i64 r_n, AV.int IntKind.i64 r_tm]] = ref55_Tame_t r_c r_fs r_n r_tm none (fun (p : Bool) => some ((AV.bool p) : AV)) := by kernel_rfl
  rw [h]; unfold ref55_Tame ref55_Tame_t; repeat' (first | exact Enc.none | exact Enc.some rfl | refine Enc.br ?_ ?_)
noncomputable def ref55_Tame_o : List AV → Option (Bool × AV) := ocOf (sCons (sAgg (sCons (sList (3 : Nat) pAny) (sCons (sList (3 : Nat) pAny) (sCons (sEq (pInt IntKind.i64)) (sCons (sEq (pInt IntKind.i64)) sNil))))) sNil) fun ((r_c, (r_fs, (r_n, (r_tm, _)))), _) => ((ref55_Tame r_c r_fs r_n r_tm).isSome, (AV.bool ((ref55_Tame r_c r_fs r_n r_tm).getD false)))
theorem ref55_Tame_c : OcOk Tryz.prog ITryz 8 (ref55_Tame_o) := ocOk_of fun vv rr hh => by
  obtain ⟨⟨r_c, ⟨r_fs, ⟨r_n, ⟨r_tm, _⟩⟩⟩⟩, _⟩ := vv
  obtain ⟨hh1, hh2⟩ := Prod.mk.inj hh
  refine good_pin (p := ref55_Tame_E2.pin) (good_XF mxTryz (inv0Ok Tryz.prog _) rfl ref55_Tame_E2_ok Tryz.func8 rfl (by kernel_rfl) ref55_Tame_E2_lk8 ((ref55_Tame_x _ _ _ _ _ (getD_of_isSome (d := false) hh1)).trans ?_))
  exact congrArg some hh2


noncomputable def EK8_3 : Env := EK8_2.with 8 ref55_Tame_o

theorem EK8_3_ok : OrcOk Tryz.prog ITryz EK8_3 := EK8_2_ok.with ref55_Tame_c

/-- The environment of bitemporal/bitemporallaw55.lines: its loops so far. -/

noncomputable def law55_lines_E0 : Env := EK8_3.fn 29 0 (lsOf []) (lpsOf [])

theorem law55_lines_E0_ok : OrcOk Tryz.prog (ITryz.at 0) law55_lines_E0 := EK8_3_ok.fn

theorem law55_lines_E0_lk19_0 : LoOk Tryz.prog (ITryz.at law55_lines_E0.pin) law55_lines_E0 (loopAt Tryz.f19 0) := loOk_nil (by kernel_rfl)

/- 7 nodes -/
noncomputable def law55_lines_l0_t {T : Type} (s0 : List UInt8) (t7 : Int) (n : Int) (t8 : Int) (δ : T) (κl : (Int × Int) → T) (κr : (Int) → T) : T := br (decide (t8 < t7)) (br (decide ((0 : Int) ≤ t8) && decide (t8 < (↑s0.length : Int))) (br ((↑(s0.getD t8.toNat (0 : UInt8)).toNat : Int) == (10 : Int)) (κl (IntKind.i64.wrap (n + (1 : Int)), IntKind.i64.wrap (t8 + (1 : Int)))) (κl (n, IntKind.i64.wrap (t8 + (1 : Int))))) (δ)) (κr (n))
noncomputable def law55_lines_l0_step (s0 : List UInt8) (t7 : Int) : (Int × Int) → Option ((Int × Int) ⊕ (Int)) := fun (n, t8) => law55_lines_l0_t s0 t7 n t8 none (fun s => some (.inl s)) (fun p => some (.inr p))
noncomputable def law55_lines_l0_L (s0 : List UInt8) (t7 : Int) : (Int × Int) → List AV × List Box := fun (n, t8) => ([AV.str s0, AV.int IntKind.i64 n, AV.int IntKind.i64 t7, AV.int IntKind.i64 t8], [])
noncomputable def law55_lines_l0_out (s0 : List UInt8) (t7 : Int) : (Int) → LR := fun p => (.leaf (Exit.exit (0 : Nat)) [AV.str s0, AV.int IntKind.i64 p] [])
noncomputable abbrev law55_lines_l0_X (vals : List AV) (H : List Box) := XR Tryz.prog law55_lines_E0 [0, 4, 7, 8] [0, 4] [] (loopAt Tryz.f19 0) vals H
theorem law55_lines_l0_r (s0 : List UInt8) (t7 : Int) (s : Int × Int) : Enc (encR (law55_lines_l0_L s0 t7) (law55_lines_l0_out s0 t7)) (law55_lines_l0_step s0 t7 s) (law55_lines_l0_X (law55_lines_l0_L s0 t7 s).1 (law55_lines_l0_L s0 t7 s).2) := by
  obtain ⟨n, t8⟩ := s
  have h : law55_lines_l0_X (law55_lines_l0_L s0 t7 (n, t8)).1 (law55_lines_l0_L s0 t7 (n, t8)).2 = law55_lines_l0_t s0 t7 n t8 none (fun s => some (encR (law55_lines_l0_L s0 t7) (law55_lines_l0_out s0 t7) (.inl s))) (fun p => some (encR (law55_lines_l0_L s0 t7) (law55_lines_l0_out s0 t7) (.inr p))) := by kernel_rfl
  rw [h]; unfold law55_lines_l0_step law55_lines_l0_t; repeat' (first | exact Enc.none | exact Enc.some rfl | refine Enc.br ?_ ?_)
noncomputable def law55_lines_l0_lp : Lp := lpOf [0, 4, 7, 8] [0, 4] [] (pCons pStr (pCons (pInt IntKind.i64) (pCons (pInt IntKind.i64) (pCons (pInt IntKind.i64) pNil)))) pNil fun (s0, (n, (t7, (t8, _)))) _ => ((Iter (law55_lines_l0_step s0 t7) (n, t8)).isSome, law55_lines_l0_out s0 t7 ((Iter (law55_lines_l0_step s0 t7) (n, t8)).getD 0))
theorem law55_lines_l0_lok : LoopOk Tryz.prog (ITryz.at law55_lines_E0.pin) law55_lines_E0.nt (loopAt Tryz.f19 0) law55_lines_l0_lp := lok_of fun vv bb rr hh => by
  obtain ⟨s0, ⟨n, ⟨t7, ⟨t8, _⟩⟩⟩⟩ := vv
  obtain ⟨hh1, rfl⟩ := Prod.mk.inj hh
  exact loop_of_XR mxTryz (inv0Ok Tryz.prog _) rfl law55_lines_E0_ok law55_lines_E0_lk19_0 (law55_lines_l0_L s0 t7) (law55_lines_l0_out s0 t7) (fun p => by simp only [law55_lines_l0_out, LR.eval]; first | (simp; done) | (repeat' split <;> simp)) (law55_lines_l0_r s0 t7) (s := (n, t8)) (getD_of_isSome hh1)


/-- The environment of bitemporal/bitemporallaw55.lines: its loops so far. -/

noncomputable def law55_lines_E1 : Env := EK8_3.fn 29 0 (lsOf []) (lpsOf [(3, law55_lines_l0_lp)])

theorem law55_lines_E1_ok : OrcOk Tryz.prog (ITryz.at 0) law55_lines_E1 := EK8_3_ok.fn

theorem law55_lines_E1_lk19 : LoOk Tryz.prog (ITryz.at law55_lines_E1.pin) law55_lines_E1 (Tryz.f19.body.getD .skip) := loOk_all (ls := [loopAt Tryz.f19 0]) (by kernel_rfl) (fun l hl lp hs => by
  simp only [List.mem_cons, List.not_mem_nil, or_false] at hl
  rcases hl with rfl
  · rw [show law55_lines_E1.lp (codeId (loopAt Tryz.f19 0)) = some law55_lines_l0_lp by kernel_rfl] at hs
    simp only [Option.some.injEq] at hs; subst hs; exact law55_lines_l0_lok)

/- 7 nodes -/
noncomputable def law55_lines_t {T : Type} (s0 : List UInt8) (δ : T) (κ : Int × Bool → T) : T := br ((Iter (law55_lines_l0_step s0 (↑s0.length : Int)) ((0 : Int), (0 : Int))).isSome) (br (!s0 == []) (br (decide ((0 : Int) ≤ IntKind.i64.wrap ((↑s0.length : Int) - (1 : Int))) && decide (IntKind.i64.wrap ((↑s0.length : Int) - (1 : Int)) < (↑s0.length : Int))) (κ ((Iter (law55_lines_l0_step s0 (↑s0.length : Int)) ((0 : Int), (0 : Int))).getD (0 : Int), (↑(s0.getD (IntKind.i64.wrap ((↑s0.length : Int) - (1 : Int))).toNat (0 : UInt8)).toNat : Int) == (10 : Int))) (δ)) (κ ((Iter (law55_lines_l0_step s0 (↑s0.length : Int)) ((0 : Int), (0 : Int))).getD (0 : Int), false))) (δ)
noncomputable def law55_lines (s0 : List UInt8) : Option (Int × Bool) := law55_lines_t s0 none some
theorem law55_lines_x (s0 : List UInt8) : Enc (fun (p : Int × Bool) => ((AV.tuple [AV.int IntKind.i64 p.1, AV.bool p.2]) : AV)) (law55_lines s0) (XF Tryz.prog law55_lines_E1 Tryz.f19 (Tryz.f19.body.getD .skip) [AV.str s0]) := by
  have h : XF Tryz.prog law55_lines_E1 Tryz.f19 (Tryz.f19.body.getD .skip) [AV.str s0] = law55_lines_t s0 none (fun (p : Int × Bool) => some ((AV.tuple [AV.int IntKind.i64 p.1, AV.bool p.2]) : AV)) := by kernel_rfl
  rw [h]; unfold law55_lines law55_lines_t; repeat' (first | exact Enc.none | exact Enc.some rfl | refine Enc.br ?_ ?_)
noncomputable def law55_lines_o : List AV → Option (Bool × AV) := ocOf (sCons (sEq pStr) sNil) fun (s0, _) => ((law55_lines s0).isSome, (AV.tuple [AV.int IntKind.i64 ((law55_lines s0).getD (0, false)).1, AV.bool ((law55_lines s0).getD (0, false)).2]))
theorem law55_lines_c : OcOk Tryz.prog ITryz 19 (law55_lines_o) := ocOk_of fun vv rr hh => by
  obtain ⟨s0, _⟩ := vv
  obtain ⟨hh1, hh2⟩ := Prod.mk.inj hh
  refine good_pin (p := law55_lines_E1.pin) (good_XF mxTryz (inv0Ok Tryz.prog _) rfl law55_lines_E1_ok Tryz.func19 rfl (by kernel_rfl) law55_lines_E1_lk19 ((law55_lines_x _ _ (getD_of_isSome (d := (0, false)) hh1)).trans ?_))
  exact congrArg some hh2


noncomputable def EK8_4 : Env := EK8_3.with 19 law55_lines_o

theorem EK8_4_ok : OrcOk Tryz.prog ITryz EK8_4 := EK8_3_ok.with law55_lines_c

noncomputable abbrev EK8 : Env := EK8_4

theorem EK8_ok : OrcOk Tryz.prog ITryz EK8 := EK8_4_ok

end Go.Sim.M
