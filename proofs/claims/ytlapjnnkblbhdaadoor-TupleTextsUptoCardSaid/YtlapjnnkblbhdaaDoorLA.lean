/- Functions of the program as the executor found them: printed by program, checked by the kernel. -/
import Derived.Test.YtlapjnnkblbhdaaDoorAwk3
set_option linter.unusedVariables false
set_option linter.unusedSimpArgs false
set_option maxRecDepth 100000
namespace Go.Sim.M
open Go.RowKit Go.Proofs

/-- The environment of bitemporal/bitemporallaw08.TupleCompares: its loops so far. -/

noncomputable def law08_TupleCompares_E0 : Env := EA3.fn 24 0 (lsOf []) (lpsOf [])

theorem law08_TupleCompares_E0_ok : OrcOk Tryd.prog (ITryd.at 0) law08_TupleCompares_E0 := EA3_ok.fn

theorem law08_TupleCompares_E0_lk3 : LoOk Tryd.prog (ITryd.at law08_TupleCompares_E0.pin) law08_TupleCompares_E0 (Tryd.f3.body.getD .skip) := loOk_nil (by kernel_rfl)

/- 13 nodes -/
noncomputable def law08_TupleCompares (a : List AV) (b : List AV) : Bool := (br (tuple_Compare a b == ref08_Compare a b) (br (tuple_Equal a b == ref08_Equal a b) ((true)) ((false))) ((false)))
noncomputable def law08_TupleCompares_pre (a : List AV) (b : List AV) : Bool := br (tuple_Compare_pre a b) (br (ref08_Compare_pre a b) (br (tuple_Compare a b == ref08_Compare a b) (br (tuple_Equal_pre a b) (br (ref08_Equal_pre a b) (true) (false)) (false)) (true)) (false)) (false)
theorem law08_TupleCompares_x (a : List AV) (b : List AV) : Pre (law08_TupleCompares_pre a b) (XF Tryd.prog law08_TupleCompares_E0 Tryd.f3 (Tryd.f3.body.getD .skip) [AV.list (3 : Nat) a, AV.list (3 : Nat) b]) (AV.bool (law08_TupleCompares a b)) := by
  have h : XF Tryd.prog law08_TupleCompares_E0 Tryd.f3 (Tryd.f3.body.getD .skip) [AV.list (3 : Nat) a, AV.list (3 : Nat) b] = br (tuple_Compare_pre a b) (br (ref08_Compare_pre a b) (br (tuple_Compare a b == ref08_Compare a b) (br (tuple_Equal_pre a b) (br (ref08_Equal_pre a b) (br (tuple_Equal a b == ref08_Equal a b) (some (AV.bool true)) (some (AV.bool false))) none) none) (some (AV.bool false))) none) none := by kernel_rfl
  rw [h]; unfold law08_TupleCompares law08_TupleCompares_pre; repeat' (first | exact Pre.none | exact Pre.tt rfl | exact Pre.some rfl | refine Pre.l ?_ | refine Pre.r ?_ | refine Pre.br (f := fun (p : Bool) => ((AV.bool p) : AV)) ?_ ?_ | refine Pre.brt (f := fun (p : Bool) => ((AV.bool p) : AV)) ?_ ?_)
noncomputable def law08_TupleCompares_o : List AV → Option (Bool × AV)
  | [AV.list (3 : Nat) a, AV.list (3 : Nat) b] => some (law08_TupleCompares_pre a b, (AV.bool (law08_TupleCompares a b)))
  | _ => none
theorem law08_TupleCompares_c : OcOk Tryd.prog ITryd 3 (law08_TupleCompares_o) := fun xs r h => by
  unfold law08_TupleCompares_o at h; split at h
  · simp only [Option.some.injEq, Prod.mk.injEq] at h; obtain ⟨h1, rfl⟩ := h
    exact good_pin (p := law08_TupleCompares_E0.pin) (good_XF mxTryd (inv0Ok Tryd.prog _) rfl law08_TupleCompares_E0_ok Tryd.func3 rfl (by kernel_rfl) law08_TupleCompares_E0_lk3 (Pre.get (law08_TupleCompares_x _ _) h1))
  · simp at h


noncomputable def ELA_1 : Env := EA3.with 3 law08_TupleCompares_o

theorem ELA_1_ok : OrcOk Tryd.prog ITryd ELA_1 := EA3_ok.with law08_TupleCompares_c

/-- The environment of bitemporal/bitemporallaw08.TupleFits: its loops so far. -/

noncomputable def law08_TupleFits_E0 : Env := ELA_1.fn 15 0 (lsOf []) (lpsOf [])

theorem law08_TupleFits_E0_ok : OrcOk Tryd.prog (ITryd.at 0) law08_TupleFits_E0 := ELA_1_ok.fn

theorem law08_TupleFits_E0_lk6 : LoOk Tryd.prog (ITryd.at law08_TupleFits_E0.pin) law08_TupleFits_E0 (Tryd.f6.body.getD .skip) := loOk_nil (by kernel_rfl)

/- 7 nodes -/
noncomputable def law08_TupleFits (row : List AV) (kinds : List AV) : Bool := (br (tuple_Fits row kinds == ref08_Fits row kinds) ((true)) ((false)))
noncomputable def law08_TupleFits_pre (row : List AV) (kinds : List AV) : Bool := br (tuple_Fits_pre row kinds) (br (ref08_Fits_pre row kinds) (true) (false)) (false)
theorem law08_TupleFits_x (row : List AV) (kinds : List AV) : Pre (law08_TupleFits_pre row kinds) (XF Tryd.prog law08_TupleFits_E0 Tryd.f6 (Tryd.f6.body.getD .skip) [AV.list (3 : Nat) row, AV.list (1 : Nat) kinds]) (AV.bool (law08_TupleFits row kinds)) := by
  have h : XF Tryd.prog law08_TupleFits_E0 Tryd.f6 (Tryd.f6.body.getD .skip) [AV.list (3 : Nat) row, AV.list (1 : Nat) kinds] = br (tuple_Fits_pre row kinds) (br (ref08_Fits_pre row kinds) (br (tuple_Fits row kinds == ref08_Fits row kinds) (some (AV.bool true)) (some (AV.bool false))) none) none := by kernel_rfl
  rw [h]; unfold law08_TupleFits law08_TupleFits_pre; repeat' (first | exact Pre.none | exact Pre.tt rfl | exact Pre.some rfl | refine Pre.l ?_ | refine Pre.r ?_ | refine Pre.br (f := fun (p : Bool) => ((AV.bool p) : AV)) ?_ ?_ | refine Pre.brt (f := fun (p : Bool) => ((AV.bool p) : AV)) ?_ ?_)
noncomputable def law08_TupleFits_o : List AV → Option (Bool × AV)
  | [AV.list (3 : Nat) row, AV.list (1 : Nat) kinds] => some (law08_TupleFits_pre row kinds, (AV.bool (law08_TupleFits row kinds)))
  | _ => none
theorem law08_TupleFits_c : OcOk Tryd.prog ITryd 6 (law08_TupleFits_o) := fun xs r h => by
  unfold law08_TupleFits_o at h; split at h
  · simp only [Option.some.injEq, Prod.mk.injEq] at h; obtain ⟨h1, rfl⟩ := h
    exact good_pin (p := law08_TupleFits_E0.pin) (good_XF mxTryd (inv0Ok Tryd.prog _) rfl law08_TupleFits_E0_ok Tryd.func6 rfl (by kernel_rfl) law08_TupleFits_E0_lk6 (Pre.get (law08_TupleFits_x _ _) h1))
  · simp at h


noncomputable def ELA_2 : Env := ELA_1.with 6 law08_TupleFits_o

theorem ELA_2_ok : OrcOk Tryd.prog ITryd ELA_2 := ELA_1_ok.with law08_TupleFits_c

/-- The environment of bitemporal/bitemporallaw08.TupleTexts: its loops so far. -/

noncomputable def law08_TupleTexts_E0 : Env := ELA_2.fn 32 0 (lsOf []) (lpsOf [])

theorem law08_TupleTexts_E0_ok : OrcOk Tryd.prog (ITryd.at 0) law08_TupleTexts_E0 := ELA_2_ok.fn

theorem law08_TupleTexts_E0_lk5_0 : LoOk Tryd.prog (ITryd.at law08_TupleTexts_E0.pin) law08_TupleTexts_E0 (loopAt Tryd.f5 0) := loOk_nil (by kernel_rfl)

/- 7 nodes -/
noncomputable def law08_TupleTexts_l0_step (row : List AV) (t6 : Int) : (Int × Int) → Option ((Int × Int) ⊕ (Int)) := fun (n, t7) => br (decide (t7 < t6)) (br (decide ((0 : Int) ≤ t7) && decide (t7 < (↑row.length : Int))) (br (decide (t7.toNat < row.length) && hasSh1 Sh.str ((row.getD t7.toNat AV.top).cells.getD (2 : Nat) AV.top)) (some (.inl (IntKind.i64.wrap (n + if (10000 : Int) < (↑((row.getD t7.toNat AV.top).cells.getD (2 : Nat) AV.top).toStr.length : Int) then (10000 : Int) else (↑((row.getD t7.toNat AV.top).cells.getD (2 : Nat) AV.top).toStr.length : Int)), IntKind.i64.wrap (t7 + (1 : Int))))) (none)) (none)) (some (.inr (n)))
noncomputable def law08_TupleTexts_l0_L (row : List AV) (t6 : Int) : (Int × Int) → List AV × List Box := fun (n, t7) => ([AV.list (3 : Nat) row, AV.int IntKind.i64 n, AV.int IntKind.i64 t6, AV.int IntKind.i64 t7], [])
noncomputable def law08_TupleTexts_l0_out (row : List AV) (t6 : Int) : (Int) → LR := fun p => (.leaf (Exit.exit (0 : Nat)) [AV.list (3 : Nat) row, AV.int IntKind.i64 p] [])
theorem law08_TupleTexts_l0_r (row : List AV) (t6 : Int) (n : Int) (t7 : Int) : Enc (encR (law08_TupleTexts_l0_L row t6) (law08_TupleTexts_l0_out row t6)) (law08_TupleTexts_l0_step row t6 (n, t7)) (XR Tryd.prog law08_TupleTexts_E0 [0, 3, 6, 7] [0, 3] [] (loopAt Tryd.f5 0) [AV.list (3 : Nat) row, AV.int IntKind.i64 n, AV.int IntKind.i64 t6, AV.int IntKind.i64 t7] []) := by
  have h : XR Tryd.prog law08_TupleTexts_E0 [0, 3, 6, 7] [0, 3] [] (loopAt Tryd.f5 0) [AV.list (3 : Nat) row, AV.int IntKind.i64 n, AV.int IntKind.i64 t6, AV.int IntKind.i64 t7] [] = br (decide (t7 < t6)) (br (decide ((0 : Int) ≤ t7) && decide (t7 < (↑row.length : Int))) (br (decide (t7.toNat < row.length) && hasSh1 Sh.str ((row.getD t7.toNat AV.top).cells.getD (2 : Nat) AV.top)) (some (Exit.normal, [AV.list (3 : Nat) row, AV.int IntKind.i64 (IntKind.i64.wrap (n + if (10000 : Int) < (↑((row.getD t7.toNat AV.top).cells.getD (2 : Nat) AV.top).toStr.length : Int) then (10000 : Int) else (↑((row.getD t7.toNat AV.top).cells.getD (2 : Nat) AV.top).toStr.length : Int))), AV.int IntKind.i64 t6, AV.int IntKind.i64 (IntKind.i64.wrap (t7 + (1 : Int)))], [])) none) none) (some (Exit.exit (0 : Nat), [AV.list (3 : Nat) row, AV.int IntKind.i64 n], [])) := by kernel_rfl
  rw [h]; unfold law08_TupleTexts_l0_step; repeat' (first | exact Enc.none | exact Enc.some rfl | refine Enc.br ?_ ?_)
noncomputable def law08_TupleTexts_l0_lp : Lp := ⟨[0, 3, 6, 7], [0, 3], [], fun vals H => match vals, H with
  | [AV.list (3 : Nat) row, AV.int IntKind.i64 n, AV.int IntKind.i64 t6, AV.int IntKind.i64 t7], [] => some ((Iter (law08_TupleTexts_l0_step row t6) (n, t7)).isSome, law08_TupleTexts_l0_out row t6 ((Iter (law08_TupleTexts_l0_step row t6) (n, t7)).getD 0))
  | _, _ => none⟩
theorem law08_TupleTexts_l0_lok : LoopOk Tryd.prog (ITryd.at law08_TupleTexts_E0.pin) law08_TupleTexts_E0.nt (loopAt Tryd.f5 0) law08_TupleTexts_l0_lp := fun vals H r h => by
  unfold law08_TupleTexts_l0_lp at h; dsimp only at h; split at h
  · simp only [Option.some.injEq, Prod.mk.injEq] at h; obtain ⟨h1, rfl⟩ := h
    obtain ⟨q, hq⟩ := Option.isSome_iff_exists.1 h1
    rw [hq]
    exact loop_of_XR mxTryd (inv0Ok Tryd.prog _) rfl law08_TupleTexts_E0_ok law08_TupleTexts_E0_lk5_0 (law08_TupleTexts_l0_L _ _) (law08_TupleTexts_l0_out _ _) (fun p => by simp only [law08_TupleTexts_l0_out, LR.eval]; first | (simp; done) | (repeat' split <;> simp)) (fun s => law08_TupleTexts_l0_r _ _ _ _) hq
  · simp at h


/-- The environment of bitemporal/bitemporallaw08.TupleTexts: its loops so far. -/

noncomputable def law08_TupleTexts_E1 : Env := ELA_2.fn 32 0 (lsOf []) (lpsOf [(3, law08_TupleTexts_l0_lp)])

theorem law08_TupleTexts_E1_ok : OrcOk Tryd.prog (ITryd.at 0) law08_TupleTexts_E1 := ELA_2_ok.fn

theorem law08_TupleTexts_E1_lk5 : LoOk Tryd.prog (ITryd.at law08_TupleTexts_E1.pin) law08_TupleTexts_E1 (Tryd.f5.body.getD .skip) := loOk_all (ls := [loopAt Tryd.f5 0]) (by kernel_rfl) (fun l hl lp hs => by
  simp only [List.mem_cons, List.not_mem_nil, or_false] at hl
  rcases hl with rfl
  · rw [show law08_TupleTexts_E1.lp (codeId (loopAt Tryd.f5 0)) = some law08_TupleTexts_l0_lp by kernel_rfl] at hs
    simp only [Option.some.injEq] at hs; subst hs; exact law08_TupleTexts_l0_lok)

/- 11 nodes -/
noncomputable def law08_TupleTexts (row : List AV) : Bool := (br (decide ((Iter (law08_TupleTexts_l0_step row (↑row.length : Int)) ((0 : Int), (0 : Int))).getD (0 : Int) > (2000 : Int))) ((true)) (br (tuple_Text row == ref08_Text row) ((true)) ((false))))
noncomputable def law08_TupleTexts_pre (row : List AV) : Bool := br ((Iter (law08_TupleTexts_l0_step row (↑row.length : Int)) ((0 : Int), (0 : Int))).isSome) (br (decide ((Iter (law08_TupleTexts_l0_step row (↑row.length : Int)) ((0 : Int), (0 : Int))).getD (0 : Int) > (2000 : Int))) (true) (br (tuple_Text_pre row) (br (ref08_Text_pre row) (true) (false)) (false))) (false)
theorem law08_TupleTexts_x (row : List AV) : Pre (law08_TupleTexts_pre row) (XF Tryd.prog law08_TupleTexts_E1 Tryd.f5 (Tryd.f5.body.getD .skip) [AV.list (3 : Nat) row]) (AV.bool (law08_TupleTexts row)) := by
  have h : XF Tryd.prog law08_TupleTexts_E1 Tryd.f5 (Tryd.f5.body.getD .skip) [AV.list (3 : Nat) row] = br (Iter (law08_TupleTexts_l0_step row (↑row.length : Int)) ((0 : Int), (0 : Int))).isSome (br (decide ((Iter (law08_TupleTexts_l0_step row (↑row.length : Int)) ((0 : Int), (0 : Int))).getD (0 : Int) > (2000 : Int))) (some (AV.bool true)) (br (tuple_Text_pre row) (br (ref08_Text_pre row) (br (tuple_Text row == ref08_Text row) (some (AV.bool true)) (some (AV.bool false))) none) none)) none := by kernel_rfl
  rw [h]; unfold law08_TupleTexts law08_TupleTexts_pre; repeat' (first | exact Pre.none | exact Pre.tt rfl | exact Pre.some rfl | refine Pre.l ?_ | refine Pre.r ?_ | refine Pre.br (f := fun (p : Bool) => ((AV.bool p) : AV)) ?_ ?_ | refine Pre.brt (f := fun (p : Bool) => ((AV.bool p) : AV)) ?_ ?_)
noncomputable def law08_TupleTexts_o : List AV → Option (Bool × AV)
  | [AV.list (3 : Nat) row] => some (law08_TupleTexts_pre row, (AV.bool (law08_TupleTexts row)))
  | _ => none
theorem law08_TupleTexts_c : OcOk Tryd.prog ITryd 5 (law08_TupleTexts_o) := fun xs r h => by
  unfold law08_TupleTexts_o at h; split at h
  · simp only [Option.some.injEq, Prod.mk.injEq] at h; obtain ⟨h1, rfl⟩ := h
    exact good_pin (p := law08_TupleTexts_E1.pin) (good_XF mxTryd (inv0Ok Tryd.prog _) rfl law08_TupleTexts_E1_ok Tryd.func5 rfl (by kernel_rfl) law08_TupleTexts_E1_lk5 (Pre.get (law08_TupleTexts_x _) h1))
  · simp at h


noncomputable def ELA_3 : Env := ELA_2.with 5 law08_TupleTexts_o

theorem ELA_3_ok : OrcOk Tryd.prog ITryd ELA_3 := ELA_2_ok.with law08_TupleTexts_c

noncomputable abbrev ELA : Env := ELA_3

theorem ELA_ok : OrcOk Tryd.prog ITryd ELA := ELA_3_ok

end Go.Sim.M
