/- Functions of the program as the executor found them: printed by program, checked by the kernel. -/
import Derived.Test.YtlapjnnkblbhdaaDoorL1
set_option linter.unusedVariables false
set_option linter.unusedSimpArgs false
set_option maxRecDepth 100000
namespace Go.Sim.M
open Go.RowKit Go.Proofs

/-- The environment of bitemporal/value.printable: its loops so far. -/

noncomputable def value_printable_E0 : Env := EL1.fn 20 0 (lsOf []) (lpsOf [])

theorem value_printable_E0_ok : OrcOk Tryd.prog (ITryd.at 0) value_printable_E0 := EL1_ok.fn

theorem value_printable_E0_lk67_0 : LoOk Tryd.prog (ITryd.at value_printable_E0.pin) value_printable_E0 (loopAt Tryd.f67 0) := loOk_nil (by kernel_rfl)

/- 11 nodes -/
noncomputable def value_printable_l0_step (s0 : List UInt8) (t5 : Int) : (Int) → Option ((Int) ⊕ (Bool × (Bool) × (Unit))) := fun (t6) => br (decide (t6 < t5)) (br (decide ((0 : Int) ≤ t6) && decide (t6 < (↑s0.length : Int))) (br (decide ((↑(s0.getD t6.toNat (0 : UInt8)).toNat : Int) < (32 : Int))) (some (.inr (true, (false), ()))) (br (decide ((0 : Int) ≤ t6) && decide (t6 < (↑s0.length : Int))) (br (decide ((↑(s0.getD t6.toNat (0 : UInt8)).toNat : Int) > (126 : Int))) (some (.inr (true, (false), ()))) (some (.inl (IntKind.i64.wrap (t6 + (1 : Int)))))) (none))) (none)) (some (.inr (false, false, ())))
noncomputable def value_printable_l0_L (s0 : List UInt8) (t5 : Int) : (Int) → List AV × List Box := fun (t6) => ([AV.str s0, AV.int IntKind.i64 t5, AV.int IntKind.i64 t6], [])
noncomputable def value_printable_l0_out (s0 : List UInt8) (t5 : Int) : (Bool × (Bool) × (Unit)) → LR := fun p => (.node p.1 (.leaf (Exit.ret) [AV.bool p.2.1] []) (.leaf (Exit.exit (0 : Nat)) [AV.top] []))
theorem value_printable_l0_r (s0 : List UInt8) (t5 : Int) (t6 : Int) : Enc (encR (value_printable_l0_L s0 t5) (value_printable_l0_out s0 t5)) (value_printable_l0_step s0 t5 (t6)) (XR Tryd.prog value_printable_E0 [0, 5, 6] [2] [] (loopAt Tryd.f67 0) [AV.str s0, AV.int IntKind.i64 t5, AV.int IntKind.i64 t6] []) := by
  have h : XR Tryd.prog value_printable_E0 [0, 5, 6] [2] [] (loopAt Tryd.f67 0) [AV.str s0, AV.int IntKind.i64 t5, AV.int IntKind.i64 t6] [] = br (decide (t6 < t5)) (br (decide ((0 : Int) ≤ t6) && decide (t6 < (↑s0.length : Int))) (br (decide ((↑(s0.getD t6.toNat (0 : UInt8)).toNat : Int) < (32 : Int))) (some (Exit.ret, [AV.bool false], [])) (br (decide ((0 : Int) ≤ t6) && decide (t6 < (↑s0.length : Int))) (br (decide ((↑(s0.getD t6.toNat (0 : UInt8)).toNat : Int) > (126 : Int))) (some (Exit.ret, [AV.bool false], [])) (some (Exit.normal, [AV.str s0, AV.int IntKind.i64 t5, AV.int IntKind.i64 (IntKind.i64.wrap (t6 + (1 : Int)))], []))) none)) none) (some (Exit.exit (0 : Nat), [AV.top], [])) := by kernel_rfl
  rw [h]; unfold value_printable_l0_step; repeat' (first | exact Enc.none | exact Enc.some rfl | refine Enc.br ?_ ?_)
noncomputable def value_printable_l0_lp : Lp := ⟨[0, 5, 6], [2], [], fun vals H => match vals, H with
  | [AV.str s0, AV.int IntKind.i64 t5, AV.int IntKind.i64 t6], [] => some ((Iter (value_printable_l0_step s0 t5) (t6)).isSome, value_printable_l0_out s0 t5 ((Iter (value_printable_l0_step s0 t5) (t6)).getD (false, false, ())))
  | _, _ => none⟩
theorem value_printable_l0_lok : LoopOk Tryd.prog (ITryd.at value_printable_E0.pin) value_printable_E0.nt (loopAt Tryd.f67 0) value_printable_l0_lp := fun vals H r h => by
  unfold value_printable_l0_lp at h; dsimp only at h; split at h
  · simp only [Option.some.injEq, Prod.mk.injEq] at h; obtain ⟨h1, rfl⟩ := h
    obtain ⟨q, hq⟩ := Option.isSome_iff_exists.1 h1
    rw [hq]
    exact loop_of_XR mxTryd (inv0Ok Tryd.prog _) rfl value_printable_E0_ok value_printable_E0_lk67_0 (value_printable_l0_L _ _) (value_printable_l0_out _ _) (fun p => by simp only [value_printable_l0_out, LR.eval]; first | (simp; done) | (repeat' split <;> simp)) (fun s => value_printable_l0_r _ _ _) hq
  · simp at h


/-- The environment of bitemporal/value.printable: its loops so far. -/

noncomputable def value_printable_E1 : Env := EL1.fn 20 0 (lsOf []) (lpsOf [(2, value_printable_l0_lp)])

theorem value_printable_E1_ok : OrcOk Tryd.prog (ITryd.at 0) value_printable_E1 := EL1_ok.fn

theorem value_printable_E1_lk67 : LoOk Tryd.prog (ITryd.at value_printable_E1.pin) value_printable_E1 (Tryd.f67.body.getD .skip) := loOk_all (ls := [loopAt Tryd.f67 0]) (by kernel_rfl) (fun l hl lp hs => by
  simp only [List.mem_cons, List.not_mem_nil, or_false] at hl
  rcases hl with rfl
  · rw [show value_printable_E1.lp (codeId (loopAt Tryd.f67 0)) = some value_printable_l0_lp by kernel_rfl] at hs
    simp only [Option.some.injEq] at hs; subst hs; exact value_printable_l0_lok)

/- 5 nodes -/
noncomputable def value_printable (s0 : List UInt8) : Bool := (br (((Iter (value_printable_l0_step s0 (↑s0.length : Int)) (0 : Int)).getD (false, false, ())).fst) ((((Iter (value_printable_l0_step s0 (↑s0.length : Int)) (0 : Int)).getD (false, false, ())).snd.fst)) ((true)))
noncomputable def value_printable_pre (s0 : List UInt8) : Bool := br ((Iter (value_printable_l0_step s0 (↑s0.length : Int)) (0 : Int)).isSome) (true) (false)
theorem value_printable_x (s0 : List UInt8) : Pre (value_printable_pre s0) (XF Tryd.prog value_printable_E1 Tryd.f67 (Tryd.f67.body.getD .skip) [AV.str s0]) (AV.bool (value_printable s0)) := by
  have h : XF Tryd.prog value_printable_E1 Tryd.f67 (Tryd.f67.body.getD .skip) [AV.str s0] = br (Iter (value_printable_l0_step s0 (↑s0.length : Int)) (0 : Int)).isSome (br ((Iter (value_printable_l0_step s0 (↑s0.length : Int)) (0 : Int)).getD (false, false, ())).fst (some (AV.bool ((Iter (value_printable_l0_step s0 (↑s0.length : Int)) (0 : Int)).getD (false, false, ())).snd.fst)) (some (AV.bool true))) none := by kernel_rfl
  rw [h]; unfold value_printable value_printable_pre; repeat' (first | exact Pre.none | exact Pre.tt rfl | exact Pre.some rfl | refine Pre.l ?_ | refine Pre.r ?_ | refine Pre.br (f := fun (p : Bool) => ((AV.bool p) : AV)) ?_ ?_ | refine Pre.brt (f := fun (p : Bool) => ((AV.bool p) : AV)) ?_ ?_)
noncomputable def value_printable_o : List AV → Option (Bool × AV)
  | [AV.str s0] => some (value_printable_pre s0, (AV.bool (value_printable s0)))
  | _ => none
theorem value_printable_c : OcOk Tryd.prog ITryd 67 value_printable_o := fun xs r h => by
  unfold value_printable_o at h; split at h
  · simp only [Option.some.injEq, Prod.mk.injEq] at h; obtain ⟨h1, rfl⟩ := h
    exact good_pin (p := value_printable_E1.pin) (good_XF mxTryd (inv0Ok Tryd.prog _) rfl value_printable_E1_ok Tryd.func67 rfl (by kernel_rfl) value_printable_E1_lk67 (Pre.get (value_printable_x _) h1))
  · simp at h


noncomputable def EL2_1 : Env := EL1.with 67 value_printable_o

theorem EL2_1_ok : OrcOk Tryd.prog ITryd EL2_1 := EL1_ok.with value_printable_c

/-- The environment of bitemporal/value.Valid: its loops so far. -/

noncomputable def value_Valid_E0 : Env := EL2_1.fn 61 0 (lsOf []) (lpsOf [])

theorem value_Valid_E0_ok : OrcOk Tryd.prog (ITryd.at 0) value_Valid_E0 := EL2_1_ok.fn

theorem value_Valid_E0_lk45 : LoOk Tryd.prog (ITryd.at value_Valid_E0.pin) value_Valid_E0 (Tryd.f45.body.getD .skip) := loOk_nil (by kernel_rfl)

/- 25 nodes -/
noncomputable def value_Valid (v_k : Int) (v_i : Int) (v_t : List UInt8) : Bool := (br (v_k == (0 : Int)) (br (v_i == (0 : Int)) ((v_t == [])) ((false))) (br (v_k == (1 : Int)) (br (v_t == []) (br (decide (v_i ≥ (-1125899906842624 : Int))) ((decide (v_i ≤ (1125899906842624 : Int)))) ((false))) ((false))) (br (v_k == (2 : Int)) (br (v_i == (0 : Int)) (br (decide ((↑v_t.length : Int) ≤ (200 : Int))) ((value_printable v_t)) ((false))) ((false))) (br (v_k == (3 : Int)) (br (v_t == []) (br (v_i == (0 : Int)) ((true)) ((v_i == (1 : Int)))) ((false))) ((false))))))
noncomputable def value_Valid_pre (v_k : Int) (v_i : Int) (v_t : List UInt8) : Bool := br (v_k == (0 : Int)) (true) (br (v_k == (1 : Int)) (true) (br (v_k == (2 : Int)) (br (v_i == (0 : Int)) (br (decide ((↑v_t.length : Int) ≤ (200 : Int))) (br (value_printable_pre v_t) (true) (false)) (true)) (true)) (true)))
theorem value_Valid_x (v_k : Int) (v_i : Int) (v_t : List UInt8) : Pre (value_Valid_pre v_k v_i v_t) (XF Tryd.prog value_Valid_E0 Tryd.f45 (Tryd.f45.body.getD .skip) [AV.agg [AV.int IntKind.i64 v_k, AV.int IntKind.i64 v_i, AV.str v_t]]) (AV.bool (value_Valid v_k v_i v_t)) := by
  have h : XF Tryd.prog value_Valid_E0 Tryd.f45 (Tryd.f45.body.getD .skip) [AV.agg [AV.int IntKind.i64 v_k, AV.int IntKind.i64 v_i, AV.str v_t]] = br (v_k == (0 : Int)) (br (v_i == (0 : Int)) (some (AV.bool (v_t == []))) (some (AV.bool false))) (br (v_k == (1 : Int)) (br (v_t == []) (br (decide (v_i ≥ (-1125899906842624 : Int))) (some (AV.bool (decide (v_i ≤ (1125899906842624 : Int))))) (some (AV.bool false))) (some (AV.bool false))) (br (v_k == (2 : Int)) (br (v_i == (0 : Int)) (br (decide ((↑v_t.length : Int) ≤ (200 : Int))) (br (value_printable_pre v_t) (some (AV.bool (value_printable v_t))) none) (some (AV.bool false))) (some (AV.bool false))) (br (v_k == (3 : Int)) (br (v_t == []) (br (v_i == (0 : Int)) (some (AV.bool true)) (some (AV.bool (v_i == (1 : Int))))) (some (AV.bool false))) (some (AV.bool false))))) := by kernel_rfl
  rw [h]; unfold value_Valid value_Valid_pre; repeat' (first | exact Pre.none | exact Pre.tt rfl | exact Pre.some rfl | refine Pre.l ?_ | refine Pre.r ?_ | refine Pre.br (f := fun (p : Bool) => ((AV.bool p) : AV)) ?_ ?_ | refine Pre.brt (f := fun (p : Bool) => ((AV.bool p) : AV)) ?_ ?_)
noncomputable def value_Valid_o : List AV → Option (Bool × AV)
  | [AV.agg [AV.int IntKind.i64 v_k, AV.int IntKind.i64 v_i, AV.str v_t]] => some (value_Valid_pre v_k v_i v_t, (AV.bool (value_Valid v_k v_i v_t)))
  | _ => none
theorem value_Valid_c : OcOk Tryd.prog ITryd 45 value_Valid_o := fun xs r h => by
  unfold value_Valid_o at h; split at h
  · simp only [Option.some.injEq, Prod.mk.injEq] at h; obtain ⟨h1, rfl⟩ := h
    exact good_pin (p := value_Valid_E0.pin) (good_XF mxTryd (inv0Ok Tryd.prog _) rfl value_Valid_E0_ok Tryd.func45 rfl (by kernel_rfl) value_Valid_E0_lk45 (Pre.get (value_Valid_x _ _ _) h1))
  · simp at h


noncomputable def EL2_2 : Env := EL2_1.with 45 value_Valid_o

theorem EL2_2_ok : OrcOk Tryd.prog ITryd EL2_2 := EL2_1_ok.with value_Valid_c

/-- The environment of bitemporal/tuple.Fits: its loops so far. -/

noncomputable def tuple_Fits_E0 : Env := EL2_2.fn 37 0 (lsOf []) (lpsOf [])

theorem tuple_Fits_E0_ok : OrcOk Tryd.prog (ITryd.at 0) tuple_Fits_E0 := EL2_2_ok.fn

theorem tuple_Fits_E0_lk21_0 : LoOk Tryd.prog (ITryd.at tuple_Fits_E0.pin) tuple_Fits_E0 (loopAt Tryd.f21 0) := loOk_nil (by kernel_rfl)

/- 19 nodes -/
noncomputable def tuple_Fits_l0_step (kinds : List AV) (t12 : List AV) (t13 : Int) : (Int) → Option ((Int) ⊕ (Bool × (Bool) × (Unit))) := fun (t14) => br (decide (t14 < t13)) (br (decide ((0 : Int) ≤ t14) && decide (t14 < (↑t12.length : Int))) (br (decide (t14.toNat < t12.length) && ((t12.getD t14.toNat AV.top).cells.length == (3 : Nat) && hasShs [Sh.int IntKind.i64, Sh.int IntKind.i64, Sh.str] (t12.getD t14.toNat AV.top).cells (0 : Nat))) (br (value_Valid_pre ((t12.getD t14.toNat AV.top).cells.getD (0 : Nat) AV.top).toInt ((t12.getD t14.toNat AV.top).cells.getD (1 : Nat) AV.top).toInt ((t12.getD t14.toNat AV.top).cells.getD (2 : Nat) AV.top).toStr) (br (!value_Valid ((t12.getD t14.toNat AV.top).cells.getD (0 : Nat) AV.top).toInt ((t12.getD t14.toNat AV.top).cells.getD (1 : Nat) AV.top).toInt ((t12.getD t14.toNat AV.top).cells.getD (2 : Nat) AV.top).toStr) (some (.inr (true, (false), ()))) (br (decide ((0 : Int) ≤ t14) && decide (t14 < (↑kinds.length : Int))) (br (decide (t14.toNat < kinds.length) && hasSh1 (Sh.int IntKind.i64) ((kinds.getD t14.toNat AV.top).cells.getD (0 : Nat) AV.top)) (br (((t12.getD t14.toNat AV.top).cells.getD (0 : Nat) AV.top).toInt != ((kinds.getD t14.toNat AV.top).cells.getD (0 : Nat) AV.top).toInt) (br (((t12.getD t14.toNat AV.top).cells.getD (0 : Nat) AV.top).toInt != (0 : Int)) (some (.inr (true, (false), ()))) (some (.inl (IntKind.i64.wrap (t14 + (1 : Int)))))) (some (.inl (IntKind.i64.wrap (t14 + (1 : Int)))))) (none)) (none))) (none)) (none)) (none)) (some (.inr (false, false, ())))
noncomputable def tuple_Fits_l0_L (kinds : List AV) (t12 : List AV) (t13 : Int) : (Int) → List AV × List Box := fun (t14) => ([AV.list (1 : Nat) kinds, AV.list (3 : Nat) t12, AV.int IntKind.i64 t13, AV.int IntKind.i64 t14], [])
noncomputable def tuple_Fits_l0_out (kinds : List AV) (t12 : List AV) (t13 : Int) : (Bool × (Bool) × (Unit)) → LR := fun p => (.node p.1 (.leaf (Exit.ret) [AV.bool p.2.1] []) (.leaf (Exit.exit (0 : Nat)) [AV.top] []))
theorem tuple_Fits_l0_r (kinds : List AV) (t12 : List AV) (t13 : Int) (t14 : Int) : Enc (encR (tuple_Fits_l0_L kinds t12 t13) (tuple_Fits_l0_out kinds t12 t13)) (tuple_Fits_l0_step kinds t12 t13 (t14)) (XR Tryd.prog tuple_Fits_E0 [1, 12, 13, 14] [4] [] (loopAt Tryd.f21 0) [AV.list (1 : Nat) kinds, AV.list (3 : Nat) t12, AV.int IntKind.i64 t13, AV.int IntKind.i64 t14] []) := by
  have h : XR Tryd.prog tuple_Fits_E0 [1, 12, 13, 14] [4] [] (loopAt Tryd.f21 0) [AV.list (1 : Nat) kinds, AV.list (3 : Nat) t12, AV.int IntKind.i64 t13, AV.int IntKind.i64 t14] [] = br (decide (t14 < t13)) (br (decide ((0 : Int) ≤ t14) && decide (t14 < (↑t12.length : Int))) (br (decide (t14.toNat < t12.length) && ((t12.getD t14.toNat AV.top).cells.length == (3 : Nat) && hasShs [Sh.int IntKind.i64, Sh.int IntKind.i64, Sh.str] (t12.getD t14.toNat AV.top).cells (0 : Nat))) (br (value_Valid_pre ((t12.getD t14.toNat AV.top).cells.getD (0 : Nat) AV.top).toInt ((t12.getD t14.toNat AV.top).cells.getD (1 : Nat) AV.top).toInt ((t12.getD t14.toNat AV.top).cells.getD (2 : Nat) AV.top).toStr) (br (!value_Valid ((t12.getD t14.toNat AV.top).cells.getD (0 : Nat) AV.top).toInt ((t12.getD t14.toNat AV.top).cells.getD (1 : Nat) AV.top).toInt ((t12.getD t14.toNat AV.top).cells.getD (2 : Nat) AV.top).toStr) (some (Exit.ret, [AV.bool false], [])) (br (decide ((0 : Int) ≤ t14) && decide (t14 < (↑kinds.length : Int))) (br (decide (t14.toNat < kinds.length) && hasSh1 (Sh.int IntKind.i64) ((kinds.getD t14.toNat AV.top).cells.getD (0 : Nat) AV.top)) (br (((t12.getD t14.toNat AV.top).cells.getD (0 : Nat) AV.top).toInt != ((kinds.getD t14.toNat AV.top).cells.getD (0 : Nat) AV.top).toInt) (br (((t12.getD t14.toNat AV.top).cells.getD (0 : Nat) AV.top).toInt != (0 : Int)) (some (Exit.ret, [AV.bool false], [])) (some (Exit.normal, [AV.list (1 : Nat) kinds, AV.list (3 : Nat) t12, AV.int IntKind.i64 t13, AV.int IntKind.i64 (IntKind.i64.wrap (t14 + (1 : Int)))], []))) (some (Exit.normal, [AV.list (1 : Nat) kinds, AV.list (3 : Nat) t12, AV.int IntKind.i64 t13, AV.int IntKind.i64 (IntKind.i64.wrap (t14 + (1 : Int)))], []))) none) none)) none) none) none) (some (Exit.exit (0 : Nat), [AV.top], [])) := by kernel_rfl
  rw [h]; unfold tuple_Fits_l0_step; repeat' (first | exact Enc.none | exact Enc.some rfl | refine Enc.br ?_ ?_)
noncomputable def tuple_Fits_l0_lp : Lp := ⟨[1, 12, 13, 14], [4], [], fun vals H => match vals, H with
  | [AV.list (1 : Nat) kinds, AV.list (3 : Nat) t12, AV.int IntKind.i64 t13, AV.int IntKind.i64 t14], [] => some ((Iter (tuple_Fits_l0_step kinds t12 t13) (t14)).isSome, tuple_Fits_l0_out kinds t12 t13 ((Iter (tuple_Fits_l0_step kinds t12 t13) (t14)).getD (false, false, ())))
  | _, _ => none⟩
theorem tuple_Fits_l0_lok : LoopOk Tryd.prog (ITryd.at tuple_Fits_E0.pin) tuple_Fits_E0.nt (loopAt Tryd.f21 0) tuple_Fits_l0_lp := fun vals H r h => by
  unfold tuple_Fits_l0_lp at h; dsimp only at h; split at h
  · simp only [Option.some.injEq, Prod.mk.injEq] at h; obtain ⟨h1, rfl⟩ := h
    obtain ⟨q, hq⟩ := Option.isSome_iff_exists.1 h1
    rw [hq]
    exact loop_of_XR mxTryd (inv0Ok Tryd.prog _) rfl tuple_Fits_E0_ok tuple_Fits_E0_lk21_0 (tuple_Fits_l0_L _ _ _) (tuple_Fits_l0_out _ _ _) (fun p => by simp only [tuple_Fits_l0_out, LR.eval]; first | (simp; done) | (repeat' split <;> simp)) (fun s => tuple_Fits_l0_r _ _ _ _) hq
  · simp at h


/-- The environment of bitemporal/tuple.Fits: its loops so far. -/

noncomputable def tuple_Fits_E1 : Env := EL2_2.fn 37 0 (lsOf []) (lpsOf [(4, tuple_Fits_l0_lp)])

theorem tuple_Fits_E1_ok : OrcOk Tryd.prog (ITryd.at 0) tuple_Fits_E1 := EL2_2_ok.fn

theorem tuple_Fits_E1_lk21 : LoOk Tryd.prog (ITryd.at tuple_Fits_E1.pin) tuple_Fits_E1 (Tryd.f21.body.getD .skip) := loOk_all (ls := [loopAt Tryd.f21 0]) (by kernel_rfl) (fun l hl lp hs => by
  simp only [List.mem_cons, List.not_mem_nil, or_false] at hl
  rcases hl with rfl
  · rw [show tuple_Fits_E1.lp (codeId (loopAt Tryd.f21 0)) = some tuple_Fits_l0_lp by kernel_rfl] at hs
    simp only [Option.some.injEq] at hs; subst hs; exact tuple_Fits_l0_lok)

/- 7 nodes -/
noncomputable def tuple_Fits (row : List AV) (kinds : List AV) : Bool := (br ((↑row.length : Int) != (↑kinds.length : Int)) ((false)) (br (((Iter (tuple_Fits_l0_step kinds row (↑row.length : Int)) (0 : Int)).getD (false, false, ())).fst) ((((Iter (tuple_Fits_l0_step kinds row (↑row.length : Int)) (0 : Int)).getD (false, false, ())).snd.fst)) ((true))))
noncomputable def tuple_Fits_pre (row : List AV) (kinds : List AV) : Bool := br ((↑row.length : Int) != (↑kinds.length : Int)) (true) (br ((Iter (tuple_Fits_l0_step kinds row (↑row.length : Int)) (0 : Int)).isSome) (true) (false))
theorem tuple_Fits_x (row : List AV) (kinds : List AV) : Pre (tuple_Fits_pre row kinds) (XF Tryd.prog tuple_Fits_E1 Tryd.f21 (Tryd.f21.body.getD .skip) [AV.list (3 : Nat) row, AV.list (1 : Nat) kinds]) (AV.bool (tuple_Fits row kinds)) := by
  have h : XF Tryd.prog tuple_Fits_E1 Tryd.f21 (Tryd.f21.body.getD .skip) [AV.list (3 : Nat) row, AV.list (1 : Nat) kinds] = br ((↑row.length : Int) != (↑kinds.length : Int)) (some (AV.bool false)) (br (Iter (tuple_Fits_l0_step kinds row (↑row.length : Int)) (0 : Int)).isSome (br ((Iter (tuple_Fits_l0_step kinds row (↑row.length : Int)) (0 : Int)).getD (false, false, ())).fst (some (AV.bool ((Iter (tuple_Fits_l0_step kinds row (↑row.length : Int)) (0 : Int)).getD (false, false, ())).snd.fst)) (some (AV.bool true))) none) := by kernel_rfl
  rw [h]; unfold tuple_Fits tuple_Fits_pre; repeat' (first | exact Pre.none | exact Pre.tt rfl | exact Pre.some rfl | refine Pre.l ?_ | refine Pre.r ?_ | refine Pre.br (f := fun (p : Bool) => ((AV.bool p) : AV)) ?_ ?_ | refine Pre.brt (f := fun (p : Bool) => ((AV.bool p) : AV)) ?_ ?_)
noncomputable def tuple_Fits_o : List AV → Option (Bool × AV)
  | [AV.list (3 : Nat) row, AV.list (1 : Nat) kinds] => some (tuple_Fits_pre row kinds, (AV.bool (tuple_Fits row kinds)))
  | _ => none
theorem tuple_Fits_c : OcOk Tryd.prog ITryd 21 tuple_Fits_o := fun xs r h => by
  unfold tuple_Fits_o at h; split at h
  · simp only [Option.some.injEq, Prod.mk.injEq] at h; obtain ⟨h1, rfl⟩ := h
    exact good_pin (p := tuple_Fits_E1.pin) (good_XF mxTryd (inv0Ok Tryd.prog _) rfl tuple_Fits_E1_ok Tryd.func21 rfl (by kernel_rfl) tuple_Fits_E1_lk21 (Pre.get (tuple_Fits_x _ _) h1))
  · simp at h


noncomputable def EL2_3 : Env := EL2_2.with 21 tuple_Fits_o

theorem EL2_3_ok : OrcOk Tryd.prog ITryd EL2_3 := EL2_2_ok.with tuple_Fits_c

/-- The environment of bitemporal/bitemporalref07.Printable: its loops so far. -/

noncomputable def ref07_Printable_E0 : Env := EL2_3.fn 20 0 (lsOf []) (lpsOf [])

theorem ref07_Printable_E0_ok : OrcOk Tryd.prog (ITryd.at 0) ref07_Printable_E0 := EL2_3_ok.fn

theorem ref07_Printable_E0_lk68_0 : LoOk Tryd.prog (ITryd.at ref07_Printable_E0.pin) ref07_Printable_E0 (loopAt Tryd.f68 0) := loOk_nil (by kernel_rfl)

/- 11 nodes -/
noncomputable def ref07_Printable_l0_step (s0 : List UInt8) : (Int) → Option ((Int) ⊕ (Bool × (Bool) × (Unit))) := fun (i) => br (decide (i < (↑s0.length : Int))) (br (decide ((0 : Int) ≤ i) && decide (i < (↑s0.length : Int))) (br (decide ((↑(s0.getD i.toNat (0 : UInt8)).toNat : Int) < (32 : Int))) (some (.inr (true, (false), ()))) (br (decide ((0 : Int) ≤ i) && decide (i < (↑s0.length : Int))) (br (decide ((↑(s0.getD i.toNat (0 : UInt8)).toNat : Int) > (126 : Int))) (some (.inr (true, (false), ()))) (some (.inl (IntKind.i64.wrap (i + (1 : Int)))))) (none))) (none)) (some (.inr (false, false, ())))
noncomputable def ref07_Printable_l0_L (s0 : List UInt8) : (Int) → List AV × List Box := fun (i) => ([AV.str s0, AV.int IntKind.i64 i], [])
noncomputable def ref07_Printable_l0_out (s0 : List UInt8) : (Bool × (Bool) × (Unit)) → LR := fun p => (.node p.1 (.leaf (Exit.ret) [AV.bool p.2.1] []) (.leaf (Exit.exit (0 : Nat)) [AV.top] []))
theorem ref07_Printable_l0_r (s0 : List UInt8) (i : Int) : Enc (encR (ref07_Printable_l0_L s0) (ref07_Printable_l0_out s0)) (ref07_Printable_l0_step s0 (i)) (XR Tryd.prog ref07_Printable_E0 [0, 3] [2] [] (loopAt Tryd.f68 0) [AV.str s0, AV.int IntKind.i64 i] []) := by
  have h : XR Tryd.prog ref07_Printable_E0 [0, 3] [2] [] (loopAt Tryd.f68 0) [AV.str s0, AV.int IntKind.i64 i] [] = br (decide (i < (↑s0.length : Int))) (br (decide ((0 : Int) ≤ i) && decide (i < (↑s0.length : Int))) (br (decide ((↑(s0.getD i.toNat (0 : UInt8)).toNat : Int) < (32 : Int))) (some (Exit.ret, [AV.bool false], [])) (br (decide ((0 : Int) ≤ i) && decide (i < (↑s0.length : Int))) (br (decide ((↑(s0.getD i.toNat (0 : UInt8)).toNat : Int) > (126 : Int))) (some (Exit.ret, [AV.bool false], [])) (some (Exit.normal, [AV.str s0, AV.int IntKind.i64 (IntKind.i64.wrap (i + (1 : Int)))], []))) none)) none) (some (Exit.exit (0 : Nat), [AV.top], [])) := by kernel_rfl
  rw [h]; unfold ref07_Printable_l0_step; repeat' (first | exact Enc.none | exact Enc.some rfl | refine Enc.br ?_ ?_)
noncomputable def ref07_Printable_l0_lp : Lp := ⟨[0, 3], [2], [], fun vals H => match vals, H with
  | [AV.str s0, AV.int IntKind.i64 i], [] => some ((Iter (ref07_Printable_l0_step s0) (i)).isSome, ref07_Printable_l0_out s0 ((Iter (ref07_Printable_l0_step s0) (i)).getD (false, false, ())))
  | _, _ => none⟩
theorem ref07_Printable_l0_lok : LoopOk Tryd.prog (ITryd.at ref07_Printable_E0.pin) ref07_Printable_E0.nt (loopAt Tryd.f68 0) ref07_Printable_l0_lp := fun vals H r h => by
  unfold ref07_Printable_l0_lp at h; dsimp only at h; split at h
  · simp only [Option.some.injEq, Prod.mk.injEq] at h; obtain ⟨h1, rfl⟩ := h
    obtain ⟨q, hq⟩ := Option.isSome_iff_exists.1 h1
    rw [hq]
    exact loop_of_XR mxTryd (inv0Ok Tryd.prog _) rfl ref07_Printable_E0_ok ref07_Printable_E0_lk68_0 (ref07_Printable_l0_L _) (ref07_Printable_l0_out _) (fun p => by simp only [ref07_Printable_l0_out, LR.eval]; first | (simp; done) | (repeat' split <;> simp)) (fun s => ref07_Printable_l0_r _ _) hq
  · simp at h


/-- The environment of bitemporal/bitemporalref07.Printable: its loops so far. -/

noncomputable def ref07_Printable_E1 : Env := EL2_3.fn 20 0 (lsOf []) (lpsOf [(2, ref07_Printable_l0_lp)])

theorem ref07_Printable_E1_ok : OrcOk Tryd.prog (ITryd.at 0) ref07_Printable_E1 := EL2_3_ok.fn

theorem ref07_Printable_E1_lk68 : LoOk Tryd.prog (ITryd.at ref07_Printable_E1.pin) ref07_Printable_E1 (Tryd.f68.body.getD .skip) := loOk_all (ls := [loopAt Tryd.f68 0]) (by kernel_rfl) (fun l hl lp hs => by
  simp only [List.mem_cons, List.not_mem_nil, or_false] at hl
  rcases hl with rfl
  · rw [show ref07_Printable_E1.lp (codeId (loopAt Tryd.f68 0)) = some ref07_Printable_l0_lp by kernel_rfl] at hs
    simp only [Option.some.injEq] at hs; subst hs; exact ref07_Printable_l0_lok)

/- 5 nodes -/
noncomputable def ref07_Printable (s0 : List UInt8) : Bool := (br (((Iter (ref07_Printable_l0_step s0) (0 : Int)).getD (false, false, ())).fst) ((((Iter (ref07_Printable_l0_step s0) (0 : Int)).getD (false, false, ())).snd.fst)) ((true)))
noncomputable def ref07_Printable_pre (s0 : List UInt8) : Bool := br ((Iter (ref07_Printable_l0_step s0) (0 : Int)).isSome) (true) (false)
theorem ref07_Printable_x (s0 : List UInt8) : Pre (ref07_Printable_pre s0) (XF Tryd.prog ref07_Printable_E1 Tryd.f68 (Tryd.f68.body.getD .skip) [AV.str s0]) (AV.bool (ref07_Printable s0)) := by
  have h : XF Tryd.prog ref07_Printable_E1 Tryd.f68 (Tryd.f68.body.getD .skip) [AV.str s0] = br (Iter (ref07_Printable_l0_step s0) (0 : Int)).isSome (br ((Iter (ref07_Printable_l0_step s0) (0 : Int)).getD (false, false, ())).fst (some (AV.bool ((Iter (ref07_Printable_l0_step s0) (0 : Int)).getD (false, false, ())).snd.fst)) (some (AV.bool true))) none := by kernel_rfl
  rw [h]; unfold ref07_Printable ref07_Printable_pre; repeat' (first | exact Pre.none | exact Pre.tt rfl | exact Pre.some rfl | refine Pre.l ?_ | refine Pre.r ?_ | refine Pre.br (f := fun (p : Bool) => ((AV.bool p) : AV)) ?_ ?_ | refine Pre.brt (f := fun (p : Bool) => ((AV.bool p) : AV)) ?_ ?_)
noncomputable def ref07_Printable_o : List AV → Option (Bool × AV)
  | [AV.str s0] => some (ref07_Printable_pre s0, (AV.bool (ref07_Printable s0)))
  | _ => none
theorem ref07_Printable_c : OcOk Tryd.prog ITryd 68 ref07_Printable_o := fun xs r h => by
  unfold ref07_Printable_o at h; split at h
  · simp only [Option.some.injEq, Prod.mk.injEq] at h; obtain ⟨h1, rfl⟩ := h
    exact good_pin (p := ref07_Printable_E1.pin) (good_XF mxTryd (inv0Ok Tryd.prog _) rfl ref07_Printable_E1_ok Tryd.func68 rfl (by kernel_rfl) ref07_Printable_E1_lk68 (Pre.get (ref07_Printable_x _) h1))
  · simp at h


noncomputable def EL2_4 : Env := EL2_3.with 68 ref07_Printable_o

theorem EL2_4_ok : OrcOk Tryd.prog ITryd EL2_4 := EL2_3_ok.with ref07_Printable_c

/-- The environment of bitemporal/bitemporalref07.Valid: its loops so far. -/

noncomputable def ref07_Valid_E0 : Env := EL2_4.fn 61 0 (lsOf []) (lpsOf [])

theorem ref07_Valid_E0_ok : OrcOk Tryd.prog (ITryd.at 0) ref07_Valid_E0 := EL2_4_ok.fn

theorem ref07_Valid_E0_lk46 : LoOk Tryd.prog (ITryd.at ref07_Valid_E0.pin) ref07_Valid_E0 (Tryd.f46.body.getD .skip) := loOk_nil (by kernel_rfl)

/- 25 nodes -/
noncomputable def ref07_Valid (v_k : Int) (v_i : Int) (v_t : List UInt8) : Bool := (br (v_k == (0 : Int)) (br (v_i == (0 : Int)) ((v_t == [])) ((false))) (br (v_k == (1 : Int)) (br (v_t == []) (br (decide (v_i ≥ (-1125899906842624 : Int))) ((decide (v_i ≤ (1125899906842624 : Int)))) ((false))) ((false))) (br (v_k == (2 : Int)) (br (v_i == (0 : Int)) (br (decide ((↑v_t.length : Int) ≤ (200 : Int))) ((ref07_Printable v_t)) ((false))) ((false))) (br (v_k == (3 : Int)) (br (v_t == []) (br (v_i == (0 : Int)) ((true)) ((v_i == (1 : Int)))) ((false))) ((false))))))
noncomputable def ref07_Valid_pre (v_k : Int) (v_i : Int) (v_t : List UInt8) : Bool := br (v_k == (0 : Int)) (true) (br (v_k == (1 : Int)) (true) (br (v_k == (2 : Int)) (br (v_i == (0 : Int)) (br (decide ((↑v_t.length : Int) ≤ (200 : Int))) (br (ref07_Printable_pre v_t) (true) (false)) (true)) (true)) (true)))
theorem ref07_Valid_x (v_k : Int) (v_i : Int) (v_t : List UInt8) : Pre (ref07_Valid_pre v_k v_i v_t) (XF Tryd.prog ref07_Valid_E0 Tryd.f46 (Tryd.f46.body.getD .skip) [AV.agg [AV.int IntKind.i64 v_k, AV.int IntKind.i64 v_i, AV.str v_t]]) (AV.bool (ref07_Valid v_k v_i v_t)) := by
  have h : XF Tryd.prog ref07_Valid_E0 Tryd.f46 (Tryd.f46.body.getD .skip) [AV.agg [AV.int IntKind.i64 v_k, AV.int IntKind.i64 v_i, AV.str v_t]] = br (v_k == (0 : Int)) (br (v_i == (0 : Int)) (some (AV.bool (v_t == []))) (some (AV.bool false))) (br (v_k == (1 : Int)) (br (v_t == []) (br (decide (v_i ≥ (-1125899906842624 : Int))) (some (AV.bool (decide (v_i ≤ (1125899906842624 : Int))))) (some (AV.bool false))) (some (AV.bool false))) (br (v_k == (2 : Int)) (br (v_i == (0 : Int)) (br (decide ((↑v_t.length : Int) ≤ (200 : Int))) (br (ref07_Printable_pre v_t) (some (AV.bool (ref07_Printable v_t))) none) (some (AV.bool false))) (some (AV.bool false))) (br (v_k == (3 : Int)) (br (v_t == []) (br (v_i == (0 : Int)) (some (AV.bool true)) (some (AV.bool (v_i == (1 : Int))))) (some (AV.bool false))) (some (AV.bool false))))) := by kernel_rfl
  rw [h]; unfold ref07_Valid ref07_Valid_pre; repeat' (first | exact Pre.none | exact Pre.tt rfl | exact Pre.some rfl | refine Pre.l ?_ | refine Pre.r ?_ | refine Pre.br (f := fun (p : Bool) => ((AV.bool p) : AV)) ?_ ?_ | refine Pre.brt (f := fun (p : Bool) => ((AV.bool p) : AV)) ?_ ?_)
noncomputable def ref07_Valid_o : List AV → Option (Bool × AV)
  | [AV.agg [AV.int IntKind.i64 v_k, AV.int IntKind.i64 v_i, AV.str v_t]] => some (ref07_Valid_pre v_k v_i v_t, (AV.bool (ref07_Valid v_k v_i v_t)))
  | _ => none
theorem ref07_Valid_c : OcOk Tryd.prog ITryd 46 ref07_Valid_o := fun xs r h => by
  unfold ref07_Valid_o at h; split at h
  · simp only [Option.some.injEq, Prod.mk.injEq] at h; obtain ⟨h1, rfl⟩ := h
    exact good_pin (p := ref07_Valid_E0.pin) (good_XF mxTryd (inv0Ok Tryd.prog _) rfl ref07_Valid_E0_ok Tryd.func46 rfl (by kernel_rfl) ref07_Valid_E0_lk46 (Pre.get (ref07_Valid_x _ _ _) h1))
  · simp at h


noncomputable def EL2_5 : Env := EL2_4.with 46 ref07_Valid_o

theorem EL2_5_ok : OrcOk Tryd.prog ITryd EL2_5 := EL2_4_ok.with ref07_Valid_c

/-- The environment of bitemporal/bitemporalref08.Fits: its loops so far. -/

noncomputable def ref08_Fits_E0 : Env := EL2_5.fn 43 0 (lsOf []) (lpsOf [])

theorem ref08_Fits_E0_ok : OrcOk Tryd.prog (ITryd.at 0) ref08_Fits_E0 := EL2_5_ok.fn

theorem ref08_Fits_E0_lk22_0 : LoOk Tryd.prog (ITryd.at ref08_Fits_E0.pin) ref08_Fits_E0 (loopAt Tryd.f22 0) := loOk_nil (by kernel_rfl)

/- 27 nodes -/
noncomputable def ref08_Fits_l0_step (row : List AV) (kinds : List AV) : (Int) → Option ((Int) ⊕ (Bool × (Bool) × (Unit))) := fun (i) => br (decide (i < (↑row.length : Int))) (br (decide ((0 : Int) ≤ i) && decide (i < (↑row.length : Int))) (br (decide (i.toNat < row.length) && ((row.getD i.toNat AV.top).cells.length == (3 : Nat) && hasShs [Sh.int IntKind.i64, Sh.int IntKind.i64, Sh.str] (row.getD i.toNat AV.top).cells (0 : Nat))) (br (ref07_Valid_pre ((row.getD i.toNat AV.top).cells.getD (0 : Nat) AV.top).toInt ((row.getD i.toNat AV.top).cells.getD (1 : Nat) AV.top).toInt ((row.getD i.toNat AV.top).cells.getD (2 : Nat) AV.top).toStr) (br (!ref07_Valid ((row.getD i.toNat AV.top).cells.getD (0 : Nat) AV.top).toInt ((row.getD i.toNat AV.top).cells.getD (1 : Nat) AV.top).toInt ((row.getD i.toNat AV.top).cells.getD (2 : Nat) AV.top).toStr) (some (.inr (true, (false), ()))) (br (decide ((0 : Int) ≤ i) && decide (i < (↑row.length : Int))) (br (decide (i.toNat < row.length) && hasSh1 (Sh.int IntKind.i64) ((row.getD i.toNat AV.top).cells.getD (0 : Nat) AV.top)) (br (((row.getD i.toNat AV.top).cells.getD (0 : Nat) AV.top).toInt != (0 : Int)) (br (decide ((0 : Int) ≤ i) && decide (i < (↑row.length : Int))) (br (decide (i.toNat < row.length) && hasSh1 (Sh.int IntKind.i64) ((row.getD i.toNat AV.top).cells.getD (0 : Nat) AV.top)) (br (decide ((0 : Int) ≤ i) && decide (i < (↑kinds.length : Int))) (br (decide (i.toNat < kinds.length) && hasSh1 (Sh.int IntKind.i64) ((kinds.getD i.toNat AV.top).cells.getD (0 : Nat) AV.top)) (br (((row.getD i.toNat AV.top).cells.getD (0 : Nat) AV.top).toInt != ((kinds.getD i.toNat AV.top).cells.getD (0 : Nat) AV.top).toInt) (some (.inr (true, (false), ()))) (some (.inl (IntKind.i64.wrap (i + (1 : Int)))))) (none)) (none)) (none)) (none)) (some (.inl (IntKind.i64.wrap (i + (1 : Int)))))) (none)) (none))) (none)) (none)) (none)) (some (.inr (false, false, ())))
noncomputable def ref08_Fits_l0_L (row : List AV) (kinds : List AV) : (Int) → List AV × List Box := fun (i) => ([AV.list (3 : Nat) row, AV.list (1 : Nat) kinds, AV.int IntKind.i64 i], [])
noncomputable def ref08_Fits_l0_out (row : List AV) (kinds : List AV) : (Bool × (Bool) × (Unit)) → LR := fun p => (.node p.1 (.leaf (Exit.ret) [AV.bool p.2.1] []) (.leaf (Exit.exit (0 : Nat)) [AV.top] []))
theorem ref08_Fits_l0_r (row : List AV) (kinds : List AV) (i : Int) : Enc (encR (ref08_Fits_l0_L row kinds) (ref08_Fits_l0_out row kinds)) (ref08_Fits_l0_step row kinds (i)) (XR Tryd.prog ref08_Fits_E0 [0, 1, 5] [4] [] (loopAt Tryd.f22 0) [AV.list (3 : Nat) row, AV.list (1 : Nat) kinds, AV.int IntKind.i64 i] []) := by
  have h : XR Tryd.prog ref08_Fits_E0 [0, 1, 5] [4] [] (loopAt Tryd.f22 0) [AV.list (3 : Nat) row, AV.list (1 : Nat) kinds, AV.int IntKind.i64 i] [] = br (decide (i < (↑row.length : Int))) (br (decide ((0 : Int) ≤ i) && decide (i < (↑row.length : Int))) (br (decide (i.toNat < row.length) && ((row.getD i.toNat AV.top).cells.length == (3 : Nat) && hasShs [Sh.int IntKind.i64, Sh.int IntKind.i64, Sh.str] (row.getD i.toNat AV.top).cells (0 : Nat))) (br (ref07_Valid_pre ((row.getD i.toNat AV.top).cells.getD (0 : Nat) AV.top).toInt ((row.getD i.toNat AV.top).cells.getD (1 : Nat) AV.top).toInt ((row.getD i.toNat AV.top).cells.getD (2 : Nat) AV.top).toStr) (br (!ref07_Valid ((row.getD i.toNat AV.top).cells.getD (0 : Nat) AV.top).toInt ((row.getD i.toNat AV.top).cells.getD (1 : Nat) AV.top).toInt ((row.getD i.toNat AV.top).cells.getD (2 : Nat) AV.top).toStr) (some (Exit.ret, [AV.bool false], [])) (br (decide ((0 : Int) ≤ i) && decide (i < (↑row.length : Int))) (br (decide (i.toNat < row.length) && hasSh1 (Sh.int IntKind.i64) ((row.getD i.toNat AV.top).cells.getD (0 : Nat) AV.top)) (br (((row.getD i.toNat AV.top).cells.getD (0 : Nat) AV.top).toInt != (0 : Int)) (br (decide ((0 : Int) ≤ i) && decide (i < (↑row.length : Int))) (br (decide (i.toNat < row.length) && hasSh1 (Sh.int IntKind.i64) ((row.getD i.toNat AV.top).cells.getD (0 : Nat) AV.top)) (br (decide ((0 : Int) ≤ i) && decide (i < (↑kinds.length : Int))) (br (decide (i.toNat < kinds.length) && hasSh1 (Sh.int IntKind.i64) ((kinds.getD i.toNat AV.top).cells.getD (0 : Nat) AV.top)) (br (((row.getD i.toNat AV.top).cells.getD (0 : Nat) AV.top).toInt != ((kinds.getD i.toNat AV.top).cells.getD (0 : Nat) AV.top).toInt) (some (Exit.ret, [AV.bool false], [])) (some (Exit.normal, [AV.list (3 : Nat) row, AV.list (1 : Nat) kinds, AV.int IntKind.i64 (IntKind.i64.wrap (i + (1 : Int)))], []))) none) none) none) none) (some (Exit.normal, [AV.list (3 : Nat) row, AV.list (1 : Nat) kinds, AV.int IntKind.i64 (IntKind.i64.wrap (i + (1 : Int)))], []))) none) none)) none) none) none) (some (Exit.exit (0 : Nat), [AV.top], [])) := by kernel_rfl
  rw [h]; unfold ref08_Fits_l0_step; repeat' (first | exact Enc.none | exact Enc.some rfl | refine Enc.br ?_ ?_)
noncomputable def ref08_Fits_l0_lp : Lp := ⟨[0, 1, 5], [4], [], fun vals H => match vals, H with
  | [AV.list (3 : Nat) row, AV.list (1 : Nat) kinds, AV.int IntKind.i64 i], [] => some ((Iter (ref08_Fits_l0_step row kinds) (i)).isSome, ref08_Fits_l0_out row kinds ((Iter (ref08_Fits_l0_step row kinds) (i)).getD (false, false, ())))
  | _, _ => none⟩
theorem ref08_Fits_l0_lok : LoopOk Tryd.prog (ITryd.at ref08_Fits_E0.pin) ref08_Fits_E0.nt (loopAt Tryd.f22 0) ref08_Fits_l0_lp := fun vals H r h => by
  unfold ref08_Fits_l0_lp at h; dsimp only at h; split at h
  · simp only [Option.some.injEq, Prod.mk.injEq] at h; obtain ⟨h1, rfl⟩ := h
    obtain ⟨q, hq⟩ := Option.isSome_iff_exists.1 h1
    rw [hq]
    exact loop_of_XR mxTryd (inv0Ok Tryd.prog _) rfl ref08_Fits_E0_ok ref08_Fits_E0_lk22_0 (ref08_Fits_l0_L _ _) (ref08_Fits_l0_out _ _) (fun p => by simp only [ref08_Fits_l0_out, LR.eval]; first | (simp; done) | (repeat' split <;> simp)) (fun s => ref08_Fits_l0_r _ _ _) hq
  · simp at h


/-- The environment of bitemporal/bitemporalref08.Fits: its loops so far. -/

noncomputable def ref08_Fits_E1 : Env := EL2_5.fn 43 0 (lsOf []) (lpsOf [(4, ref08_Fits_l0_lp)])

theorem ref08_Fits_E1_ok : OrcOk Tryd.prog (ITryd.at 0) ref08_Fits_E1 := EL2_5_ok.fn

theorem ref08_Fits_E1_lk22 : LoOk Tryd.prog (ITryd.at ref08_Fits_E1.pin) ref08_Fits_E1 (Tryd.f22.body.getD .skip) := loOk_all (ls := [loopAt Tryd.f22 0]) (by kernel_rfl) (fun l hl lp hs => by
  simp only [List.mem_cons, List.not_mem_nil, or_false] at hl
  rcases hl with rfl
  · rw [show ref08_Fits_E1.lp (codeId (loopAt Tryd.f22 0)) = some ref08_Fits_l0_lp by kernel_rfl] at hs
    simp only [Option.some.injEq] at hs; subst hs; exact ref08_Fits_l0_lok)

/- 7 nodes -/
noncomputable def ref08_Fits (row : List AV) (kinds : List AV) : Bool := (br ((↑row.length : Int) != (↑kinds.length : Int)) ((false)) (br (((Iter (ref08_Fits_l0_step row kinds) (0 : Int)).getD (false, false, ())).fst) ((((Iter (ref08_Fits_l0_step row kinds) (0 : Int)).getD (false, false, ())).snd.fst)) ((true))))
noncomputable def ref08_Fits_pre (row : List AV) (kinds : List AV) : Bool := br ((↑row.length : Int) != (↑kinds.length : Int)) (true) (br ((Iter (ref08_Fits_l0_step row kinds) (0 : Int)).isSome) (true) (false))
theorem ref08_Fits_x (row : List AV) (kinds : List AV) : Pre (ref08_Fits_pre row kinds) (XF Tryd.prog ref08_Fits_E1 Tryd.f22 (Tryd.f22.body.getD .skip) [AV.list (3 : Nat) row, AV.list (1 : Nat) kinds]) (AV.bool (ref08_Fits row kinds)) := by
  have h : XF Tryd.prog ref08_Fits_E1 Tryd.f22 (Tryd.f22.body.getD .skip) [AV.list (3 : Nat) row, AV.list (1 : Nat) kinds] = br ((↑row.length : Int) != (↑kinds.length : Int)) (some (AV.bool false)) (br (Iter (ref08_Fits_l0_step row kinds) (0 : Int)).isSome (br ((Iter (ref08_Fits_l0_step row kinds) (0 : Int)).getD (false, false, ())).fst (some (AV.bool ((Iter (ref08_Fits_l0_step row kinds) (0 : Int)).getD (false, false, ())).snd.fst)) (some (AV.bool true))) none) := by kernel_rfl
  rw [h]; unfold ref08_Fits ref08_Fits_pre; repeat' (first | exact Pre.none | exact Pre.tt rfl | exact Pre.some rfl | refine Pre.l ?_ | refine Pre.r ?_ | refine Pre.br (f := fun (p : Bool) => ((AV.bool p) : AV)) ?_ ?_ | refine Pre.brt (f := fun (p : Bool) => ((AV.bool p) : AV)) ?_ ?_)
noncomputable def ref08_Fits_o : List AV → Option (Bool × AV)
  | [AV.list (3 : Nat) row, AV.list (1 : Nat) kinds] => some (ref08_Fits_pre row kinds, (AV.bool (ref08_Fits row kinds)))
  | _ => none
theorem ref08_Fits_c : OcOk Tryd.prog ITryd 22 ref08_Fits_o := fun xs r h => by
  unfold ref08_Fits_o at h; split at h
  · simp only [Option.some.injEq, Prod.mk.injEq] at h; obtain ⟨h1, rfl⟩ := h
    exact good_pin (p := ref08_Fits_E1.pin) (good_XF mxTryd (inv0Ok Tryd.prog _) rfl ref08_Fits_E1_ok Tryd.func22 rfl (by kernel_rfl) ref08_Fits_E1_lk22 (Pre.get (ref08_Fits_x _ _) h1))
  · simp at h


noncomputable def EL2_6 : Env := EL2_5.with 22 ref08_Fits_o

theorem EL2_6_ok : OrcOk Tryd.prog ITryd EL2_6 := EL2_5_ok.with ref08_Fits_c

/-- The environment of bitemporal/value.Literal: its loops so far. -/

noncomputable def value_Literal_E0 : Env := EL2_6.fn 25 0 (lsOf []) (lpsOf [])

theorem value_Literal_E0_ok : OrcOk Tryd.prog (ITryd.at 0) value_Literal_E0 := EL2_6_ok.fn

theorem value_Literal_E0_lk42 : LoOk Tryd.prog (ITryd.at value_Literal_E0.pin) value_Literal_E0 (Tryd.f42.body.getD .skip) := loOk_nil (by kernel_rfl)

/- 21 nodes -/
noncomputable def value_Literal (v_k : Int) (v_i : Int) (v_t : List UInt8) : List UInt8 := (br (!value_Valid v_k v_i v_t) (([])) (br (v_k == (1 : Int)) ((Lib.itoa v_i)) (br (v_k == (2 : Int)) (([(39 : UInt8)] ++ Lib.replaceAll v_t [(39 : UInt8)] [(39 : UInt8), (39 : UInt8)] ++ [(39 : UInt8)])) (br (v_k == (3 : Int)) (br (v_i == (1 : Int)) (([(84 : UInt8), (82 : UInt8), (85 : UInt8), (69 : UInt8)])) (([(70 : UInt8), (65 : UInt8), (76 : UInt8), (83 : UInt8), (69 : UInt8)]))) (([(78 : UInt8), (85 : UInt8), (76 : UInt8), (76 : UInt8)]))))))
noncomputable def value_Literal_pre (v_k : Int) (v_i : Int) (v_t : List UInt8) : Bool := br (value_Valid_pre v_k v_i v_t) (br (!value_Valid v_k v_i v_t) (true) (br (v_k == (1 : Int)) (br (decide ((-9223372036854775808 : Int) ≤ v_i) && decide (v_i ≤ (9223372036854775807 : Int))) (true) (false)) (br (v_k == (2 : Int)) (br (decide (v_t.length < (4294967281 : Nat)) && decide (v_t.length + Lib.count v_t [(39 : UInt8)] * (2 : Nat) ≤ (140737488355328 : Nat))) (br (decide ((1 : Nat) + (Lib.replaceAll v_t [(39 : UInt8)] [(39 : UInt8), (39 : UInt8)]).length ≤ (4611686018427387904 : Nat))) (br (decide (([(39 : UInt8)] ++ Lib.replaceAll v_t [(39 : UInt8)] [(39 : UInt8), (39 : UInt8)]).length + (1 : Nat) ≤ (4611686018427387904 : Nat))) (true) (false)) (false)) (false)) (true)))) (false)
theorem value_Literal_x (v_k : Int) (v_i : Int) (v_t : List UInt8) : Pre (value_Literal_pre v_k v_i v_t) (XF Tryd.prog value_Literal_E0 Tryd.f42 (Tryd.f42.body.getD .skip) [AV.agg [AV.int IntKind.i64 v_k, AV.int IntKind.i64 v_i, AV.str v_t]]) (AV.str (value_Literal v_k v_i v_t)) := by
  have h : XF Tryd.prog value_Literal_E0 Tryd.f42 (Tryd.f42.body.getD .skip) [AV.agg [AV.int IntKind.i64 v_k, AV.int IntKind.i64 v_i, AV.str v_t]] = br (value_Valid_pre v_k v_i v_t) (br (!value_Valid v_k v_i v_t) (some (AV.str [])) (br (v_k == (1 : Int)) (br (decide ((-9223372036854775808 : Int) ≤ v_i) && decide (v_i ≤ (9223372036854775807 : Int))) (some (AV.str (Lib.itoa v_i))) none) (br (v_k == (2 : Int)) (br (decide (v_t.length < (4294967281 : Nat)) && decide (v_t.length + Lib.count v_t [(39 : UInt8)] * (2 : Nat) ≤ (140737488355328 : Nat))) (br (decide ((1 : Nat) + (Lib.replaceAll v_t [(39 : UInt8)] [(39 : UInt8), (39 : UInt8)]).length ≤ (4611686018427387904 : Nat))) (br (decide (([(39 : UInt8)] ++ Lib.replaceAll v_t [(39 : UInt8)] [(39 : UInt8), (39 : UInt8)]).length + (1 : Nat) ≤ (4611686018427387904 : Nat))) (some (AV.str ([(39 : UInt8)] ++ Lib.replaceAll v_t [(39 : UInt8)] [(39 : UInt8), (39 : UInt8)] ++ [(39 : UInt8)]))) none) none) none) (br (v_k == (3 : Int)) (br (v_i == (1 : Int)) (some (AV.str [(84 : UInt8), (82 : UInt8), (85 : UInt8), (69 : UInt8)])) (some (AV.str [(70 : UInt8), (65 : UInt8), (76 : UInt8), (83 : UInt8), (69 : UInt8)]))) (some (AV.str [(78 : UInt8), (85 : UInt8), (76 : UInt8), (76 : UInt8)])))))) none := by kernel_rfl
  rw [h]; unfold value_Literal value_Literal_pre; repeat' (first | exact Pre.none | exact Pre.tt rfl | exact Pre.some rfl | refine Pre.l ?_ | refine Pre.r ?_ | refine Pre.br (f := fun (p : List UInt8) => ((AV.str p) : AV)) ?_ ?_ | refine Pre.brt (f := fun (p : List UInt8) => ((AV.str p) : AV)) ?_ ?_)
noncomputable def value_Literal_o : List AV → Option (Bool × AV)
  | [AV.agg [AV.int IntKind.i64 v_k, AV.int IntKind.i64 v_i, AV.str v_t]] => some (value_Literal_pre v_k v_i v_t, (AV.str (value_Literal v_k v_i v_t)))
  | _ => none
theorem value_Literal_c : OcOk Tryd.prog ITryd 42 value_Literal_o := fun xs r h => by
  unfold value_Literal_o at h; split at h
  · simp only [Option.some.injEq, Prod.mk.injEq] at h; obtain ⟨h1, rfl⟩ := h
    exact good_pin (p := value_Literal_E0.pin) (good_XF mxTryd (inv0Ok Tryd.prog _) rfl value_Literal_E0_ok Tryd.func42 rfl (by kernel_rfl) value_Literal_E0_lk42 (Pre.get (value_Literal_x _ _ _) h1))
  · simp at h


noncomputable def EL2_7 : Env := EL2_6.with 42 value_Literal_o

theorem EL2_7_ok : OrcOk Tryd.prog ITryd EL2_7 := EL2_6_ok.with value_Literal_c

/-- The environment of bitemporal/tuple.Text: its loops so far. -/

noncomputable def tuple_Text_E0 : Env := EL2_7.fn 22 0 (lsOf []) (lpsOf [])

theorem tuple_Text_E0_ok : OrcOk Tryd.prog (ITryd.at 0) tuple_Text_E0 := EL2_7_ok.fn

theorem tuple_Text_E0_lk19_0 : LoOk Tryd.prog (ITryd.at tuple_Text_E0.pin) tuple_Text_E0 (loopAt Tryd.f19 0) := loOk_nil (by kernel_rfl)

/- 11 nodes -/
noncomputable def tuple_Text_l0_step (t6 : List AV) (t7 : Int) : (Nat × Int × List AV) → Option ((Nat × Int × List AV) ⊕ (Nat × List AV)) := fun (l_n, t8, l_xs) => br (decide (t8 < t7)) (br (decide ((0 : Int) ≤ t8) && decide (t8 < (↑t6.length : Int))) (br (decide (t8.toNat < t6.length) && ((t6.getD t8.toNat AV.top).cells.length == (3 : Nat) && hasShs [Sh.int IntKind.i64, Sh.int IntKind.i64, Sh.str] (t6.getD t8.toNat AV.top).cells (0 : Nat))) (br (value_Literal_pre ((t6.getD t8.toNat AV.top).cells.getD (0 : Nat) AV.top).toInt ((t6.getD t8.toNat AV.top).cells.getD (1 : Nat) AV.top).toInt ((t6.getD t8.toNat AV.top).cells.getD (2 : Nat) AV.top).toStr) (br (l_n == l_xs.length && (decide ((l_n + (1 : Nat)) * (16 : Nat) ≤ (140737488355328 : Nat)) && decide (l_n + (1 : Nat) ≤ (4611686018427387904 : Nat)))) (some (.inl (l_n + (1 : Nat), IntKind.i64.wrap (t8 + (1 : Int)), l_xs ++ [AV.str (value_Literal ((t6.getD t8.toNat AV.top).cells.getD (0 : Nat) AV.top).toInt ((t6.getD t8.toNat AV.top).cells.getD (1 : Nat) AV.top).toInt ((t6.getD t8.toNat AV.top).cells.getD (2 : Nat) AV.top).toStr)]))) (none)) (none)) (none)) (none)) (some (.inr (l_n, l_xs)))
noncomputable def tuple_Text_l0_L (t6 : List AV) (t7 : Int) : (Nat × Int × List AV) → List AV × List Box := fun (l_n, t8, l_xs) => ([AV.osl 0 0 0 l_n, AV.list (3 : Nat) t6, AV.int IntKind.i64 t7, AV.int IntKind.i64 t8], [⟨0, (1 : Nat), (9 : Nat), l_xs, false, true⟩])
noncomputable def tuple_Text_l0_out (t6 : List AV) (t7 : Int) : (Nat × List AV) → LR := fun p => (.leaf (Exit.exit (0 : Nat)) [AV.osl 0 0 0 p.1] [⟨0, (1 : Nat), (9 : Nat), p.2, false, true⟩])
theorem tuple_Text_l0_r (t6 : List AV) (t7 : Int) (l_n : Nat) (t8 : Int) (l_xs : List AV) : Enc (encR (tuple_Text_l0_L t6 t7) (tuple_Text_l0_out t6 t7)) (tuple_Text_l0_step t6 t7 (l_n, t8, l_xs)) (XR Tryd.prog tuple_Text_E0 [3, 6, 7, 8] [3] [(3, 1, 9)] (loopAt Tryd.f19 0) [AV.osl 0 0 0 l_n, AV.list (3 : Nat) t6, AV.int IntKind.i64 t7, AV.int IntKind.i64 t8] [⟨0, (1 : Nat), (9 : Nat), l_xs, false, true⟩]) := by
  have h : XR Tryd.prog tuple_Text_E0 [3, 6, 7, 8] [3] [(3, 1, 9)] (loopAt Tryd.f19 0) [AV.osl 0 0 0 l_n, AV.list (3 : Nat) t6, AV.int IntKind.i64 t7, AV.int IntKind.i64 t8] [⟨0, (1 : Nat), (9 : Nat), l_xs, false, true⟩] = br (decide (t8 < t7)) (br (decide ((0 : Int) ≤ t8) && decide (t8 < (↑t6.length : Int))) (br (decide (t8.toNat < t6.length) && ((t6.getD t8.toNat AV.top).cells.length == (3 : Nat) && hasShs [Sh.int IntKind.i64, Sh.int IntKind.i64, Sh.str] (t6.getD t8.toNat AV.top).cells (0 : Nat))) (br (value_Literal_pre ((t6.getD t8.toNat AV.top).cells.getD (0 : Nat) AV.top).toInt ((t6.getD t8.toNat AV.top).cells.getD (1 : Nat) AV.top).toInt ((t6.getD t8.toNat AV.top).cells.getD (2 : Nat) AV.top).toStr) (br (l_n == l_xs.length && (decide ((l_n + (1 : Nat)) * (16 : Nat) ≤ (140737488355328 : Nat)) && decide (l_n + (1 : Nat) ≤ (4611686018427387904 : Nat)))) (some (Exit.normal, [AV.osl (0 : Nat) (0 : Nat) (0 : Nat) (l_n + (1 : Nat)), AV.list (3 : Nat) t6, AV.int IntKind.i64 t7, AV.int IntKind.i64 (IntKind.i64.wrap (t8 + (1 : Int)))], [{ ver := (0 : Nat), sz := (1 : Nat), ty := (9 : Nat), xs := l_xs ++ [AV.str (value_Literal ((t6.getD t8.toNat AV.top).cells.getD (0 : Nat) AV.top).toInt ((t6.getD t8.toNat AV.top).cells.getD (1 : Nat) AV.top).toInt ((t6.getD t8.toNat AV.top).cells.getD (2 : Nat) AV.top).toStr)], frz := false, pm := true }])) none) none) none) none) (some (Exit.exit (0 : Nat), [AV.osl (0 : Nat) (0 : Nat) (0 : Nat) l_n], [{ ver := (0 : Nat), sz := (1 : Nat), ty := (9 : Nat), xs := l_xs, frz := false, pm := true }])) := by kernel_rfl
  rw [h]; unfold tuple_Text_l0_step; repeat' (first | exact Enc.none | exact Enc.some rfl | refine Enc.br ?_ ?_)
noncomputable def tuple_Text_l0_lp : Lp := ⟨[3, 6, 7, 8], [3], [(3, 1, 9)], fun vals H => match vals, H with
  | [AV.osl 0 0 0 l_n, AV.list (3 : Nat) t6, AV.int IntKind.i64 t7, AV.int IntKind.i64 t8], [⟨0, (1 : Nat), (9 : Nat), l_xs, false, true⟩] => some ((Iter (tuple_Text_l0_step t6 t7) (l_n, t8, l_xs)).isSome, tuple_Text_l0_out t6 t7 ((Iter (tuple_Text_l0_step t6 t7) (l_n, t8, l_xs)).getD (0, [])))
  | _, _ => none⟩
theorem tuple_Text_l0_lok : LoopOk Tryd.prog (ITryd.at tuple_Text_E0.pin) tuple_Text_E0.nt (loopAt Tryd.f19 0) tuple_Text_l0_lp := fun vals H r h => by
  unfold tuple_Text_l0_lp at h; dsimp only at h; split at h
  · simp only [Option.some.injEq, Prod.mk.injEq] at h; obtain ⟨h1, rfl⟩ := h
    obtain ⟨q, hq⟩ := Option.isSome_iff_exists.1 h1
    rw [hq]
    exact loop_of_XR mxTryd (inv0Ok Tryd.prog _) rfl tuple_Text_E0_ok tuple_Text_E0_lk19_0 (tuple_Text_l0_L _ _) (tuple_Text_l0_out _ _) (fun p => by simp only [tuple_Text_l0_out, LR.eval]; first | (simp; done) | (repeat' split <;> simp)) (fun s => tuple_Text_l0_r _ _ _ _ _) hq
  · simp at h


/-- The environment of bitemporal/tuple.Text: its loops so far. -/

noncomputable def tuple_Text_E1 : Env := EL2_7.fn 22 0 (lsOf []) (lpsOf [(3, tuple_Text_l0_lp)])

theorem tuple_Text_E1_ok : OrcOk Tryd.prog (ITryd.at 0) tuple_Text_E1 := EL2_7_ok.fn

theorem tuple_Text_E1_lk19 : LoOk Tryd.prog (ITryd.at tuple_Text_E1.pin) tuple_Text_E1 (Tryd.f19.body.getD .skip) := loOk_all (ls := [loopAt Tryd.f19 0]) (by kernel_rfl) (fun l hl lp hs => by
  simp only [List.mem_cons, List.not_mem_nil, or_false] at hl
  rcases hl with rfl
  · rw [show tuple_Text_E1.lp (codeId (loopAt Tryd.f19 0)) = some tuple_Text_l0_lp by kernel_rfl] at hs
    simp only [Option.some.injEq] at hs; subst hs; exact tuple_Text_l0_lok)

/- 11 nodes -/
noncomputable def tuple_Text (row : List AV) : List UInt8 := (([(40 : UInt8)] ++ Lib.join (List.map AV.toStr (List.take ((Iter (tuple_Text_l0_step row (↑row.length : Int)) ((0 : Nat), (0 : Int), [])).getD ((0 : Nat), [])).fst (List.drop (0 : Nat) ((Iter (tuple_Text_l0_step row (↑row.length : Int)) ((0 : Nat), (0 : Int), [])).getD ((0 : Nat), [])).snd))) [(44 : UInt8), (32 : UInt8)] ++ [(41 : UInt8)]))
noncomputable def tuple_Text_pre (row : List AV) : Bool := br ((Iter (tuple_Text_l0_step row (↑row.length : Int)) ((0 : Nat), (0 : Int), [])).isSome) (br (decide ((0 : Nat) + ((Iter (tuple_Text_l0_step row (↑row.length : Int)) ((0 : Nat), (0 : Int), [])).getD ((0 : Nat), [])).fst ≤ ((Iter (tuple_Text_l0_step row (↑row.length : Int)) ((0 : Nat), (0 : Int), [])).getD ((0 : Nat), [])).snd.length) && true) (br ((List.take ((Iter (tuple_Text_l0_step row (↑row.length : Int)) ((0 : Nat), (0 : Int), [])).getD ((0 : Nat), [])).fst (List.drop (0 : Nat) ((Iter (tuple_Text_l0_step row (↑row.length : Int)) ((0 : Nat), (0 : Int), [])).getD ((0 : Nat), [])).snd)).all AV.isStr && (decide ((List.take ((Iter (tuple_Text_l0_step row (↑row.length : Int)) ((0 : Nat), (0 : Int), [])).getD ((0 : Nat), [])).fst (List.drop (0 : Nat) ((Iter (tuple_Text_l0_step row (↑row.length : Int)) ((0 : Nat), (0 : Int), [])).getD ((0 : Nat), [])).snd)).length ≤ (140737488355328 : Nat)) && decide ((Lib.join (List.map AV.toStr (List.take ((Iter (tuple_Text_l0_step row (↑row.length : Int)) ((0 : Nat), (0 : Int), [])).getD ((0 : Nat), [])).fst (List.drop (0 : Nat) ((Iter (tuple_Text_l0_step row (↑row.length : Int)) ((0 : Nat), (0 : Int), [])).getD ((0 : Nat), [])).snd))) [(44 : UInt8), (32 : UInt8)]).length ≤ (140737488355328 : Nat)))) (br (decide ((1 : Nat) + (Lib.join (List.map AV.toStr (List.take ((Iter (tuple_Text_l0_step row (↑row.length : Int)) ((0 : Nat), (0 : Int), [])).getD ((0 : Nat), [])).fst (List.drop (0 : Nat) ((Iter (tuple_Text_l0_step row (↑row.length : Int)) ((0 : Nat), (0 : Int), [])).getD ((0 : Nat), [])).snd))) [(44 : UInt8), (32 : UInt8)]).length ≤ (4611686018427387904 : Nat))) (br (decide (([(40 : UInt8)] ++ Lib.join (List.map AV.toStr (List.take ((Iter (tuple_Text_l0_step row (↑row.length : Int)) ((0 : Nat), (0 : Int), [])).getD ((0 : Nat), [])).fst (List.drop (0 : Nat) ((Iter (tuple_Text_l0_step row (↑row.length : Int)) ((0 : Nat), (0 : Int), [])).getD ((0 : Nat), [])).snd))) [(44 : UInt8), (32 : UInt8)]).length + (1 : Nat) ≤ (4611686018427387904 : Nat))) (true) (false)) (false)) (false)) (false)) (false)
theorem tuple_Text_x (row : List AV) : Pre (tuple_Text_pre row) (XF Tryd.prog tuple_Text_E1 Tryd.f19 (Tryd.f19.body.getD .skip) [AV.list (3 : Nat) row]) (AV.str (tuple_Text row)) := by
  have h : XF Tryd.prog tuple_Text_E1 Tryd.f19 (Tryd.f19.body.getD .skip) [AV.list (3 : Nat) row] = br (Iter (tuple_Text_l0_step row (↑row.length : Int)) ((0 : Nat), (0 : Int), [])).isSome (br (decide ((0 : Nat) + ((Iter (tuple_Text_l0_step row (↑row.length : Int)) ((0 : Nat), (0 : Int), [])).getD ((0 : Nat), [])).fst ≤ ((Iter (tuple_Text_l0_step row (↑row.length : Int)) ((0 : Nat), (0 : Int), [])).getD ((0 : Nat), [])).snd.length) && true) (br ((List.take ((Iter (tuple_Text_l0_step row (↑row.length : Int)) ((0 : Nat), (0 : Int), [])).getD ((0 : Nat), [])).fst (List.drop (0 : Nat) ((Iter (tuple_Text_l0_step row (↑row.length : Int)) ((0 : Nat), (0 : Int), [])).getD ((0 : Nat), [])).snd)).all AV.isStr && (decide ((List.take ((Iter (tuple_Text_l0_step row (↑row.length : Int)) ((0 : Nat), (0 : Int), [])).getD ((0 : Nat), [])).fst (List.drop (0 : Nat) ((Iter (tuple_Text_l0_step row (↑row.length : Int)) ((0 : Nat), (0 : Int), [])).getD ((0 : Nat), [])).snd)).length ≤ (140737488355328 : Nat)) && decide ((Lib.join (List.map AV.toStr (List.take ((Iter (tuple_Text_l0_step row (↑row.length : Int)) ((0 : Nat), (0 : Int), [])).getD ((0 : Nat), [])).fst (List.drop (0 : Nat) ((Iter (tuple_Text_l0_step row (↑row.length : Int)) ((0 : Nat), (0 : Int), [])).getD ((0 : Nat), [])).snd))) [(44 : UInt8), (32 : UInt8)]).length ≤ (140737488355328 : Nat)))) (br (decide ((1 : Nat) + (Lib.join (List.map AV.toStr (List.take ((Iter (tuple_Text_l0_step row (↑row.length : Int)) ((0 : Nat), (0 : Int), [])).getD ((0 : Nat), [])).fst (List.drop (0 : Nat) ((Iter (tuple_Text_l0_step row (↑row.length : Int)) ((0 : Nat), (0 : Int), [])).getD ((0 : Nat), [])).snd))) [(44 : UInt8), (32 : UInt8)]).length ≤ (4611686018427387904 : Nat))) (br (decide (([(40 : UInt8)] ++ Lib.join (List.map AV.toStr (List.take ((Iter (tuple_Text_l0_step row (↑row.length : Int)) ((0 : Nat), (0 : Int), [])).getD ((0 : Nat), [])).fst (List.drop (0 : Nat) ((Iter (tuple_Text_l0_step row (↑row.length : Int)) ((0 : Nat), (0 : Int), [])).getD ((0 : Nat), [])).snd))) [(44 : UInt8), (32 : UInt8)]).length + (1 : Nat) ≤ (4611686018427387904 : Nat))) (some (AV.str ([(40 : UInt8)] ++ Lib.join (List.map AV.toStr (List.take ((Iter (tuple_Text_l0_step row (↑row.length : Int)) ((0 : Nat), (0 : Int), [])).getD ((0 : Nat), [])).fst (List.drop (0 : Nat) ((Iter (tuple_Text_l0_step row (↑row.length : Int)) ((0 : Nat), (0 : Int), [])).getD ((0 : Nat), [])).snd))) [(44 : UInt8), (32 : UInt8)] ++ [(41 : UInt8)]))) none) none) none) none) none := by kernel_rfl
  rw [h]; unfold tuple_Text tuple_Text_pre; repeat' (first | exact Pre.none | exact Pre.tt rfl | exact Pre.some rfl | refine Pre.l ?_ | refine Pre.r ?_ | refine Pre.br (f := fun (p : List UInt8) => ((AV.str p) : AV)) ?_ ?_ | refine Pre.brt (f := fun (p : List UInt8) => ((AV.str p) : AV)) ?_ ?_)
noncomputable def tuple_Text_o : List AV → Option (Bool × AV)
  | [AV.list (3 : Nat) row] => some (tuple_Text_pre row, (AV.str (tuple_Text row)))
  | _ => none
theorem tuple_Text_c : OcOk Tryd.prog ITryd 19 tuple_Text_o := fun xs r h => by
  unfold tuple_Text_o at h; split at h
  · simp only [Option.some.injEq, Prod.mk.injEq] at h; obtain ⟨h1, rfl⟩ := h
    exact good_pin (p := tuple_Text_E1.pin) (good_XF mxTryd (inv0Ok Tryd.prog _) rfl tuple_Text_E1_ok Tryd.func19 rfl (by kernel_rfl) tuple_Text_E1_lk19 (Pre.get (tuple_Text_x _) h1))
  · simp at h


noncomputable def EL2_8 : Env := EL2_7.with 19 tuple_Text_o

theorem EL2_8_ok : OrcOk Tryd.prog ITryd EL2_8 := EL2_7_ok.with tuple_Text_c

/-- The environment of bitemporal/bitemporalref07.Bool: its loops so far. -/

noncomputable def ref07_Bool_E0 : Env := EL2_8.fn 6 0 (lsOf []) (lpsOf [])

theorem ref07_Bool_E0_ok : OrcOk Tryd.prog (ITryd.at 0) ref07_Bool_E0 := EL2_8_ok.fn

theorem ref07_Bool_E0_lk64 : LoOk Tryd.prog (ITryd.at ref07_Bool_E0.pin) ref07_Bool_E0 (Tryd.f64.body.getD .skip) := loOk_nil (by kernel_rfl)

/- 3 nodes -/
noncomputable def ref07_Bool (b : Bool) : Int × Int × List UInt8 := (br (b) (((3 : Int), (1 : Int), [])) (((3 : Int), (0 : Int), [])))
noncomputable def ref07_Bool_pre (b : Bool) : Bool := true
theorem ref07_Bool_x (b : Bool) : Pre (ref07_Bool_pre b) (XF Tryd.prog ref07_Bool_E0 Tryd.f64 (Tryd.f64.body.getD .skip) [AV.bool b]) (AV.agg [AV.int IntKind.i64 (ref07_Bool b).1, AV.int IntKind.i64 (ref07_Bool b).2.1, AV.str (ref07_Bool b).2.2]) := by
  have h : XF Tryd.prog ref07_Bool_E0 Tryd.f64 (Tryd.f64.body.getD .skip) [AV.bool b] = br b (some (AV.agg [AV.int IntKind.i64 (3 : Int), AV.int IntKind.i64 (1 : Int), AV.str []])) (some (AV.agg [AV.int IntKind.i64 (3 : Int), AV.int IntKind.i64 (0 : Int), AV.str []])) := by kernel_rfl
  rw [h]; unfold ref07_Bool ref07_Bool_pre; repeat' (first | exact Pre.none | exact Pre.tt rfl | exact Pre.some rfl | refine Pre.l ?_ | refine Pre.r ?_ | refine Pre.br (f := fun (p : Int × Int × List UInt8) => ((AV.agg [AV.int IntKind.i64 p.1, AV.int IntKind.i64 p.2.1, AV.str p.2.2]) : AV)) ?_ ?_ | refine Pre.brt (f := fun (p : Int × Int × List UInt8) => ((AV.agg [AV.int IntKind.i64 p.1, AV.int IntKind.i64 p.2.1, AV.str p.2.2]) : AV)) ?_ ?_)
noncomputable def ref07_Bool_o : List AV → Option (Bool × AV)
  | [AV.bool b] => some (ref07_Bool_pre b, (AV.agg [AV.int IntKind.i64 (ref07_Bool b).1, AV.int IntKind.i64 (ref07_Bool b).2.1, AV.str (ref07_Bool b).2.2]))
  | _ => none
theorem ref07_Bool_c : OcOk Tryd.prog ITryd 64 ref07_Bool_o := fun xs r h => by
  unfold ref07_Bool_o at h; split at h
  · simp only [Option.some.injEq, Prod.mk.injEq] at h; obtain ⟨h1, rfl⟩ := h
    exact good_pin (p := ref07_Bool_E0.pin) (good_XF mxTryd (inv0Ok Tryd.prog _) rfl ref07_Bool_E0_ok Tryd.func64 rfl (by kernel_rfl) ref07_Bool_E0_lk64 (Pre.get (ref07_Bool_x _) h1))
  · simp at h


noncomputable def EL2_9 : Env := EL2_8.with 64 ref07_Bool_o

theorem EL2_9_ok : OrcOk Tryd.prog ITryd EL2_9 := EL2_8_ok.with ref07_Bool_c

/-- The environment of bitemporal/bitemporalref01.Number: its loops so far. -/

noncomputable def ref01_Number_E0 : Env := EL2_9.fn 22 0 (lsOf []) (lpsOf [])

theorem ref01_Number_E0_ok : OrcOk Tryd.prog (ITryd.at 0) ref01_Number_E0 := EL2_9_ok.fn

theorem ref01_Number_E0_lk77_0 : LoOk Tryd.prog (ITryd.at ref01_Number_E0.pin) ref01_Number_E0 (loopAt Tryd.f77 0) := loOk_nil (by kernel_rfl)

/- 7 nodes -/
noncomputable def ref01_Number_l0_step : (Int × List UInt8) → Option ((Int × List UInt8) ⊕ (Int × List UInt8)) := fun (n, s0) => br (decide (n > (9 : Int))) (br (decide ((0 : Int) ≤ IntKind.i64.wrap (n.tmod (10 : Int) + (1 : Int))) && decide (IntKind.i64.wrap (n.tmod (10 : Int) + (1 : Int)) ≤ (10 : Int)) && (decide ((0 : Int) ≤ n.tmod (10 : Int)) && decide (n.tmod (10 : Int) ≤ (↑(IntKind.i64.wrap (n.tmod (10 : Int) + (1 : Int))).toNat : Int)))) (br (decide ((List.take ((IntKind.i64.wrap (n.tmod (10 : Int) + (1 : Int))).toNat - (n.tmod (10 : Int)).toNat) (List.drop (n.tmod (10 : Int)).toNat [(48 : UInt8), (49 : UInt8), (50 : UInt8), (51 : UInt8), (52 : UInt8), (53 : UInt8), (54 : UInt8), (55 : UInt8), (56 : UInt8), (57 : UInt8)])).length + s0.length ≤ (4611686018427387904 : Nat))) (some (.inl (IntKind.i64.wrap (n.tdiv (10 : Int)), List.take ((IntKind.i64.wrap (n.tmod (10 : Int) + (1 : Int))).toNat - (n.tmod (10 : Int)).toNat) (List.drop (n.tmod (10 : Int)).toNat [(48 : UInt8), (49 : UInt8), (50 : UInt8), (51 : UInt8), (52 : UInt8), (53 : UInt8), (54 : UInt8), (55 : UInt8), (56 : UInt8), (57 : UInt8)]) ++ s0))) (none)) (none)) (some (.inr (n, s0)))
noncomputable def ref01_Number_l0_L : (Int × List UInt8) → List AV × List Box := fun (n, s0) => ([AV.int IntKind.i64 n, AV.str s0], [])
noncomputable def ref01_Number_l0_out : (Int × List UInt8) → LR := fun p => (.leaf (Exit.exit (0 : Nat)) [AV.int IntKind.i64 p.1, AV.str p.2] [])
theorem ref01_Number_l0_r (n : Int) (s0 : List UInt8) : Enc (encR (ref01_Number_l0_L) (ref01_Number_l0_out)) (ref01_Number_l0_step (n, s0)) (XR Tryd.prog ref01_Number_E0 [0, 3] [0, 3] [] (loopAt Tryd.f77 0) [AV.int IntKind.i64 n, AV.str s0] []) := by
  have h : XR Tryd.prog ref01_Number_E0 [0, 3] [0, 3] [] (loopAt Tryd.f77 0) [AV.int IntKind.i64 n, AV.str s0] [] = br (decide (n > (9 : Int))) (br (decide ((0 : Int) ≤ IntKind.i64.wrap (n.tmod (10 : Int) + (1 : Int))) && decide (IntKind.i64.wrap (n.tmod (10 : Int) + (1 : Int)) ≤ (10 : Int)) && (decide ((0 : Int) ≤ n.tmod (10 : Int)) && decide (n.tmod (10 : Int) ≤ (↑(IntKind.i64.wrap (n.tmod (10 : Int) + (1 : Int))).toNat : Int)))) (br (decide ((List.take ((IntKind.i64.wrap (n.tmod (10 : Int) + (1 : Int))).toNat - (n.tmod (10 : Int)).toNat) (List.drop (n.tmod (10 : Int)).toNat [(48 : UInt8), (49 : UInt8), (50 : UInt8), (51 : UInt8), (52 : UInt8), (53 : UInt8), (54 : UInt8), (55 : UInt8), (56 : UInt8), (57 : UInt8)])).length + s0.length ≤ (4611686018427387904 : Nat))) (some (Exit.normal, [AV.int IntKind.i64 (IntKind.i64.wrap (n.tdiv (10 : Int))), AV.str (List.take ((IntKind.i64.wrap (n.tmod (10 : Int) + (1 : Int))).toNat - (n.tmod (10 : Int)).toNat) (List.drop (n.tmod (10 : Int)).toNat [(48 : UInt8), (49 : UInt8), (50 : UInt8), (51 : UInt8), (52 : UInt8), (53 : UInt8), (54 : UInt8), (55 : UInt8), (56 : UInt8), (57 : UInt8)]) ++ s0)], [])) none) none) (some (Exit.exit (0 : Nat), [AV.int IntKind.i64 n, AV.str s0], [])) := by kernel_rfl
  rw [h]; unfold ref01_Number_l0_step; repeat' (first | exact Enc.none | exact Enc.some rfl | refine Enc.br ?_ ?_)
noncomputable def ref01_Number_l0_lp : Lp := ⟨[0, 3], [0, 3], [], fun vals H => match vals, H with
  | [AV.int IntKind.i64 n, AV.str s0], [] => some ((Iter (ref01_Number_l0_step) (n, s0)).isSome, ref01_Number_l0_out ((Iter (ref01_Number_l0_step) (n, s0)).getD (0, [])))
  | _, _ => none⟩
theorem ref01_Number_l0_lok : LoopOk Tryd.prog (ITryd.at ref01_Number_E0.pin) ref01_Number_E0.nt (loopAt Tryd.f77 0) ref01_Number_l0_lp := fun vals H r h => by
  unfold ref01_Number_l0_lp at h; dsimp only at h; split at h
  · simp only [Option.some.injEq, Prod.mk.injEq] at h; obtain ⟨h1, rfl⟩ := h
    obtain ⟨q, hq⟩ := Option.isSome_iff_exists.1 h1
    rw [hq]
    exact loop_of_XR mxTryd (inv0Ok Tryd.prog _) rfl ref01_Number_E0_ok ref01_Number_E0_lk77_0 (ref01_Number_l0_L) (ref01_Number_l0_out) (fun p => by simp only [ref01_Number_l0_out, LR.eval]; first | (simp; done) | (repeat' split <;> simp)) (fun s => ref01_Number_l0_r _ _) hq
  · simp at h


/-- The environment of bitemporal/bitemporalref01.Number: its loops so far. -/

noncomputable def ref01_Number_E1 : Env := EL2_9.fn 22 0 (lsOf []) (lpsOf [(2, ref01_Number_l0_lp)])

theorem ref01_Number_E1_ok : OrcOk Tryd.prog (ITryd.at 0) ref01_Number_E1 := EL2_9_ok.fn

theorem ref01_Number_E1_lk77 : LoOk Tryd.prog (ITryd.at ref01_Number_E1.pin) ref01_Number_E1 (Tryd.f77.body.getD .skip) := loOk_all (ls := [loopAt Tryd.f77 0]) (by kernel_rfl) (fun l hl lp hs => by
  simp only [List.mem_cons, List.not_mem_nil, or_false] at hl
  rcases hl with rfl
  · rw [show ref01_Number_E1.lp (codeId (loopAt Tryd.f77 0)) = some ref01_Number_l0_lp by kernel_rfl] at hs
    simp only [Option.some.injEq] at hs; subst hs; exact ref01_Number_l0_lok)

/- 7 nodes -/
noncomputable def ref01_Number (n : Int) : List UInt8 := ((List.take ((IntKind.i64.wrap (((Iter ref01_Number_l0_step (n, [])).getD ((0 : Int), [])).fst + (1 : Int))).toNat - ((Iter ref01_Number_l0_step (n, [])).getD ((0 : Int), [])).fst.toNat) (List.drop ((Iter ref01_Number_l0_step (n, [])).getD ((0 : Int), [])).fst.toNat [(48 : UInt8), (49 : UInt8), (50 : UInt8), (51 : UInt8), (52 : UInt8), (53 : UInt8), (54 : UInt8), (55 : UInt8), (56 : UInt8), (57 : UInt8)]) ++ ((Iter ref01_Number_l0_step (n, [])).getD ((0 : Int), [])).snd))
noncomputable def ref01_Number_pre (n : Int) : Bool := br ((Iter ref01_Number_l0_step (n, [])).isSome) (br (decide ((0 : Int) ≤ IntKind.i64.wrap (((Iter ref01_Number_l0_step (n, [])).getD ((0 : Int), [])).fst + (1 : Int))) && decide (IntKind.i64.wrap (((Iter ref01_Number_l0_step (n, [])).getD ((0 : Int), [])).fst + (1 : Int)) ≤ (10 : Int)) && (decide ((0 : Int) ≤ ((Iter ref01_Number_l0_step (n, [])).getD ((0 : Int), [])).fst) && decide (((Iter ref01_Number_l0_step (n, [])).getD ((0 : Int), [])).fst ≤ (↑(IntKind.i64.wrap (((Iter ref01_Number_l0_step (n, [])).getD ((0 : Int), [])).fst + (1 : Int))).toNat : Int)))) (br (decide ((List.take ((IntKind.i64.wrap (((Iter ref01_Number_l0_step (n, [])).getD ((0 : Int), [])).fst + (1 : Int))).toNat - ((Iter ref01_Number_l0_step (n, [])).getD ((0 : Int), [])).fst.toNat) (List.drop ((Iter ref01_Number_l0_step (n, [])).getD ((0 : Int), [])).fst.toNat [(48 : UInt8), (49 : UInt8), (50 : UInt8), (51 : UInt8), (52 : UInt8), (53 : UInt8), (54 : UInt8), (55 : UInt8), (56 : UInt8), (57 : UInt8)])).length + ((Iter ref01_Number_l0_step (n, [])).getD ((0 : Int), [])).snd.length ≤ (4611686018427387904 : Nat))) (true) (false)) (false)) (false)
theorem ref01_Number_x (n : Int) : Pre (ref01_Number_pre n) (XF Tryd.prog ref01_Number_E1 Tryd.f77 (Tryd.f77.body.getD .skip) [AV.int IntKind.i64 n]) (AV.str (ref01_Number n)) := by
  have h : XF Tryd.prog ref01_Number_E1 Tryd.f77 (Tryd.f77.body.getD .skip) [AV.int IntKind.i64 n] = br (Iter ref01_Number_l0_step (n, [])).isSome (br (decide ((0 : Int) ≤ IntKind.i64.wrap (((Iter ref01_Number_l0_step (n, [])).getD ((0 : Int), [])).fst + (1 : Int))) && decide (IntKind.i64.wrap (((Iter ref01_Number_l0_step (n, [])).getD ((0 : Int), [])).fst + (1 : Int)) ≤ (10 : Int)) && (decide ((0 : Int) ≤ ((Iter ref01_Number_l0_step (n, [])).getD ((0 : Int), [])).fst) && decide (((Iter ref01_Number_l0_step (n, [])).getD ((0 : Int), [])).fst ≤ (↑(IntKind.i64.wrap (((Iter ref01_Number_l0_step (n, [])).getD ((0 : Int), [])).fst + (1 : Int))).toNat : Int)))) (br (decide ((List.take ((IntKind.i64.wrap (((Iter ref01_Number_l0_step (n, [])).getD ((0 : Int), [])).fst + (1 : Int))).toNat - ((Iter ref01_Number_l0_step (n, [])).getD ((0 : Int), [])).fst.toNat) (List.drop ((Iter ref01_Number_l0_step (n, [])).getD ((0 : Int), [])).fst.toNat [(48 : UInt8), (49 : UInt8), (50 : UInt8), (51 : UInt8), (52 : UInt8), (53 : UInt8), (54 : UInt8), (55 : UInt8), (56 : UInt8), (57 : UInt8)])).length + ((Iter ref01_Number_l0_step (n, [])).getD ((0 : Int), [])).snd.length ≤ (4611686018427387904 : Nat))) (some (AV.str (List.take ((IntKind.i64.wrap (((Iter ref01_Number_l0_step (n, [])).getD ((0 : Int), [])).fst + (1 : Int))).toNat - ((Iter ref01_Number_l0_step (n, [])).getD ((0 : Int), [])).fst.toNat) (List.drop ((Iter ref01_Number_l0_step (n, [])).getD ((0 : Int), [])).fst.toNat [(48 : UInt8), (49 : UInt8), (50 : UInt8), (51 : UInt8), (52 : UInt8), (53 : UInt8), (54 : UInt8), (55 : UInt8), (56 : UInt8), (57 : UInt8)]) ++ ((Iter ref01_Number_l0_step (n, [])).getD ((0 : Int), [])).snd))) none) none) none := by kernel_rfl
  rw [h]; unfold ref01_Number ref01_Number_pre; repeat' (first | exact Pre.none | exact Pre.tt rfl | exact Pre.some rfl | refine Pre.l ?_ | refine Pre.r ?_ | refine Pre.br (f := fun (p : List UInt8) => ((AV.str p) : AV)) ?_ ?_ | refine Pre.brt (f := fun (p : List UInt8) => ((AV.str p) : AV)) ?_ ?_)
noncomputable def ref01_Number_o : List AV → Option (Bool × AV)
  | [AV.int IntKind.i64 n] => some (ref01_Number_pre n, (AV.str (ref01_Number n)))
  | _ => none
theorem ref01_Number_c : OcOk Tryd.prog ITryd 77 ref01_Number_o := fun xs r h => by
  unfold ref01_Number_o at h; split at h
  · simp only [Option.some.injEq, Prod.mk.injEq] at h; obtain ⟨h1, rfl⟩ := h
    exact good_pin (p := ref01_Number_E1.pin) (good_XF mxTryd (inv0Ok Tryd.prog _) rfl ref01_Number_E1_ok Tryd.func77 rfl (by kernel_rfl) ref01_Number_E1_lk77 (Pre.get (ref01_Number_x _) h1))
  · simp at h


noncomputable def EL2_10 : Env := EL2_9.with 77 ref01_Number_o

theorem EL2_10_ok : OrcOk Tryd.prog ITryd EL2_10 := EL2_9_ok.with ref01_Number_c

/-- The environment of bitemporal/bitemporalref07.Number: its loops so far. -/

noncomputable def ref07_Number_E0 : Env := EL2_10.fn 27 0 (lsOf []) (lpsOf [])

theorem ref07_Number_E0_ok : OrcOk Tryd.prog (ITryd.at 0) ref07_Number_E0 := EL2_10_ok.fn

theorem ref07_Number_E0_lk65 : LoOk Tryd.prog (ITryd.at ref07_Number_E0.pin) ref07_Number_E0 (Tryd.f65.body.getD .skip) := loOk_nil (by kernel_rfl)

/- 33 nodes -/
noncomputable def ref07_Number (n : Int) : List UInt8 := (br (decide (n < (0 : Int))) (br (decide (n > (-10 : Int))) (([(45 : UInt8)] ++ ref01_Number (IntKind.i64.wrap ((0 : Int) - n)))) (br (decide (n < (0 : Int))) (([(45 : UInt8)] ++ ref01_Number (IntKind.i64.wrap ((0 : Int) - IntKind.i64.wrap (n.tdiv (10 : Int)))) ++ ref01_Number (IntKind.i64.wrap ((0 : Int) - n.tmod (10 : Int))))) ((ref01_Number n)))) (br (decide (n < (0 : Int))) (([(45 : UInt8)] ++ ref01_Number (IntKind.i64.wrap ((0 : Int) - IntKind.i64.wrap (n.tdiv (10 : Int)))) ++ ref01_Number (IntKind.i64.wrap ((0 : Int) - n.tmod (10 : Int))))) ((ref01_Number n))))
noncomputable def ref07_Number_pre (n : Int) : Bool := br (decide (n < (0 : Int))) (br (decide (n > (-10 : Int))) (br (ref01_Number_pre (IntKind.i64.wrap ((0 : Int) - n))) (br (decide ((1 : Nat) + (ref01_Number (IntKind.i64.wrap ((0 : Int) - n))).length ≤ (4611686018427387904 : Nat))) (true) (false)) (false)) (br (decide (n < (0 : Int))) (br (ref01_Number_pre (IntKind.i64.wrap ((0 : Int) - IntKind.i64.wrap (n.tdiv (10 : Int))))) (br (decide ((1 : Nat) + (ref01_Number (IntKind.i64.wrap ((0 : Int) - IntKind.i64.wrap (n.tdiv (10 : Int))))).length ≤ (4611686018427387904 : Nat))) (br (ref01_Number_pre (IntKind.i64.wrap ((0 : Int) - n.tmod (10 : Int)))) (br (decide (([(45 : UInt8)] ++ ref01_Number (IntKind.i64.wrap ((0 : Int) - IntKind.i64.wrap (n.tdiv (10 : Int))))).length + (ref01_Number (IntKind.i64.wrap ((0 : Int) - n.tmod (10 : Int)))).length ≤ (4611686018427387904 : Nat))) (true) (false)) (false)) (false)) (false)) (br (ref01_Number_pre n) (true) (false)))) (br (decide (n < (0 : Int))) (br (ref01_Number_pre (IntKind.i64.wrap ((0 : Int) - IntKind.i64.wrap (n.tdiv (10 : Int))))) (br (decide ((1 : Nat) + (ref01_Number (IntKind.i64.wrap ((0 : Int) - IntKind.i64.wrap (n.tdiv (10 : Int))))).length ≤ (4611686018427387904 : Nat))) (br (ref01_Number_pre (IntKind.i64.wrap ((0 : Int) - n.tmod (10 : Int)))) (br (decide (([(45 : UInt8)] ++ ref01_Number (IntKind.i64.wrap ((0 : Int) - IntKind.i64.wrap (n.tdiv (10 : Int))))).length + (ref01_Number (IntKind.i64.wrap ((0 : Int) - n.tmod (10 : Int)))).length ≤ (4611686018427387904 : Nat))) (true) (false)) (false)) (false)) (false)) (br (ref01_Number_pre n) (true) (false)))
theorem ref07_Number_x (n : Int) : Pre (ref07_Number_pre n) (XF Tryd.prog ref07_Number_E0 Tryd.f65 (Tryd.f65.body.getD .skip) [AV.int IntKind.i64 n]) (AV.str (ref07_Number n)) := by
  have h : XF Tryd.prog ref07_Number_E0 Tryd.f65 (Tryd.f65.body.getD .skip) [AV.int IntKind.i64 n] = br (decide (n < (0 : Int))) (br (decide (n > (-10 : Int))) (br (ref01_Number_pre (IntKind.i64.wrap ((0 : Int) - n))) (br (decide ((1 : Nat) + (ref01_Number (IntKind.i64.wrap ((0 : Int) - n))).length ≤ (4611686018427387904 : Nat))) (some (AV.str ([(45 : UInt8)] ++ ref01_Number (IntKind.i64.wrap ((0 : Int) - n))))) none) none) (br (decide (n < (0 : Int))) (br (ref01_Number_pre (IntKind.i64.wrap ((0 : Int) - IntKind.i64.wrap (n.tdiv (10 : Int))))) (br (decide ((1 : Nat) + (ref01_Number (IntKind.i64.wrap ((0 : Int) - IntKind.i64.wrap (n.tdiv (10 : Int))))).length ≤ (4611686018427387904 : Nat))) (br (ref01_Number_pre (IntKind.i64.wrap ((0 : Int) - n.tmod (10 : Int)))) (br (decide (([(45 : UInt8)] ++ ref01_Number (IntKind.i64.wrap ((0 : Int) - IntKind.i64.wrap (n.tdiv (10 : Int))))).length + (ref01_Number (IntKind.i64.wrap ((0 : Int) - n.tmod (10 : Int)))).length ≤ (4611686018427387904 : Nat))) (some (AV.str ([(45 : UInt8)] ++ ref01_Number (IntKind.i64.wrap ((0 : Int) - IntKind.i64.wrap (n.tdiv (10 : Int)))) ++ ref01_Number (IntKind.i64.wrap ((0 : Int) - n.tmod (10 : Int)))))) none) none) none) none) (br (ref01_Number_pre n) (some (AV.str (ref01_Number n))) none))) (br (decide (n < (0 : Int))) (br (ref01_Number_pre (IntKind.i64.wrap ((0 : Int) - IntKind.i64.wrap (n.tdiv (10 : Int))))) (br (decide ((1 : Nat) + (ref01_Number (IntKind.i64.wrap ((0 : Int) - IntKind.i64.wrap (n.tdiv (10 : Int))))).length ≤ (4611686018427387904 : Nat))) (br (ref01_Number_pre (IntKind.i64.wrap ((0 : Int) - n.tmod (10 : Int)))) (br (decide (([(45 : UInt8)] ++ ref01_Number (IntKind.i64.wrap ((0 : Int) - IntKind.i64.wrap (n.tdiv (10 : Int))))).length + (ref01_Number (IntKind.i64.wrap ((0 : Int) - n.tmod (10 : Int)))).length ≤ (4611686018427387904 : Nat))) (some (AV.str ([(45 : UInt8)] ++ ref01_Number (IntKind.i64.wrap ((0 : Int) - IntKind.i64.wrap (n.tdiv (10 : Int)))) ++ ref01_Number (IntKind.i64.wrap ((0 : Int) - n.tmod (10 : Int)))))) none) none) none) none) (br (ref01_Number_pre n) (some (AV.str (ref01_Number n))) none)) := by kernel_rfl
  rw [h]; unfold ref07_Number ref07_Number_pre; repeat' (first | exact Pre.none | exact Pre.tt rfl | exact Pre.some rfl | refine Pre.l ?_ | refine Pre.r ?_ | refine Pre.br (f := fun (p : List UInt8) => ((AV.str p) : AV)) ?_ ?_ | refine Pre.brt (f := fun (p : List UInt8) => ((AV.str p) : AV)) ?_ ?_)
noncomputable def ref07_Number_o : List AV → Option (Bool × AV)
  | [AV.int IntKind.i64 n] => some (ref07_Number_pre n, (AV.str (ref07_Number n)))
  | _ => none
theorem ref07_Number_c : OcOk Tryd.prog ITryd 65 ref07_Number_o := fun xs r h => by
  unfold ref07_Number_o at h; split at h
  · simp only [Option.some.injEq, Prod.mk.injEq] at h; obtain ⟨h1, rfl⟩ := h
    exact good_pin (p := ref07_Number_E0.pin) (good_XF mxTryd (inv0Ok Tryd.prog _) rfl ref07_Number_E0_ok Tryd.func65 rfl (by kernel_rfl) ref07_Number_E0_lk65 (Pre.get (ref07_Number_x _) h1))
  · simp at h


noncomputable def EL2_11 : Env := EL2_10.with 65 ref07_Number_o

theorem EL2_11_ok : OrcOk Tryd.prog ITryd EL2_11 := EL2_10_ok.with ref07_Number_c

/-- The environment of bitemporal/bitemporalref07.Quote: its loops so far. -/

noncomputable def ref07_Quote_E0 : Env := EL2_11.fn 26 0 (lsOf []) (lpsOf [])

theorem ref07_Quote_E0_ok : OrcOk Tryd.prog (ITryd.at 0) ref07_Quote_E0 := EL2_11_ok.fn

theorem ref07_Quote_E0_lk66_0 : LoOk Tryd.prog (ITryd.at ref07_Quote_E0.pin) ref07_Quote_E0 (loopAt Tryd.f66 0) := loOk_nil (by kernel_rfl)

/- 17 nodes -/
noncomputable def ref07_Quote_l0_step (s0 : List UInt8) : (List UInt8 × Int) → Option ((List UInt8 × Int) ⊕ (List UInt8)) := fun (out, i) => br (decide (i < (↑s0.length : Int))) (br (decide ((0 : Int) ≤ i) && decide (i < (↑s0.length : Int))) (br ((↑(s0.getD i.toNat (0 : UInt8)).toNat : Int) == (39 : Int)) (br (decide (out.length + (1 : Nat) ≤ (4611686018427387904 : Nat))) (br (decide ((0 : Int) ≤ IntKind.i64.wrap (i + (1 : Int))) && decide (IntKind.i64.wrap (i + (1 : Int)) ≤ (↑s0.length : Int)) && (decide ((0 : Int) ≤ i) && decide (i ≤ (↑(IntKind.i64.wrap (i + (1 : Int))).toNat : Int)))) (br (decide ((out ++ [(39 : UInt8)]).length + (List.take ((IntKind.i64.wrap (i + (1 : Int))).toNat - i.toNat) (List.drop i.toNat s0)).length ≤ (4611686018427387904 : Nat))) (some (.inl (out ++ [(39 : UInt8)] ++ List.take ((IntKind.i64.wrap (i + (1 : Int))).toNat - i.toNat) (List.drop i.toNat s0), IntKind.i64.wrap (i + (1 : Int))))) (none)) (none)) (none)) (br (decide ((0 : Int) ≤ IntKind.i64.wrap (i + (1 : Int))) && decide (IntKind.i64.wrap (i + (1 : Int)) ≤ (↑s0.length : Int)) && (decide ((0 : Int) ≤ i) && decide (i ≤ (↑(IntKind.i64.wrap (i + (1 : Int))).toNat : Int)))) (br (decide (out.length + (List.take ((IntKind.i64.wrap (i + (1 : Int))).toNat - i.toNat) (List.drop i.toNat s0)).length ≤ (4611686018427387904 : Nat))) (some (.inl (out ++ List.take ((IntKind.i64.wrap (i + (1 : Int))).toNat - i.toNat) (List.drop i.toNat s0), IntKind.i64.wrap (i + (1 : Int))))) (none)) (none))) (none)) (some (.inr (out)))
noncomputable def ref07_Quote_l0_L (s0 : List UInt8) : (List UInt8 × Int) → List AV × List Box := fun (out, i) => ([AV.str s0, AV.str out, AV.int IntKind.i64 i], [])
noncomputable def ref07_Quote_l0_out (s0 : List UInt8) : (List UInt8) → LR := fun p => (.leaf (Exit.exit (0 : Nat)) [AV.str p] [])
theorem ref07_Quote_l0_r (s0 : List UInt8) (out : List UInt8) (i : Int) : Enc (encR (ref07_Quote_l0_L s0) (ref07_Quote_l0_out s0)) (ref07_Quote_l0_step s0 (out, i)) (XR Tryd.prog ref07_Quote_E0 [0, 3, 4] [3] [] (loopAt Tryd.f66 0) [AV.str s0, AV.str out, AV.int IntKind.i64 i] []) := by
  have h : XR Tryd.prog ref07_Quote_E0 [0, 3, 4] [3] [] (loopAt Tryd.f66 0) [AV.str s0, AV.str out, AV.int IntKind.i64 i] [] = br (decide (i < (↑s0.length : Int))) (br (decide ((0 : Int) ≤ i) && decide (i < (↑s0.length : Int))) (br ((↑(s0.getD i.toNat (0 : UInt8)).toNat : Int) == (39 : Int)) (br (decide (out.length + (1 : Nat) ≤ (4611686018427387904 : Nat))) (br (decide ((0 : Int) ≤ IntKind.i64.wrap (i + (1 : Int))) && decide (IntKind.i64.wrap (i + (1 : Int)) ≤ (↑s0.length : Int)) && (decide ((0 : Int) ≤ i) && decide (i ≤ (↑(IntKind.i64.wrap (i + (1 : Int))).toNat : Int)))) (br (decide ((out ++ [(39 : UInt8)]).length + (List.take ((IntKind.i64.wrap (i + (1 : Int))).toNat - i.toNat) (List.drop i.toNat s0)).length ≤ (4611686018427387904 : Nat))) (some (Exit.normal, [AV.str s0, AV.str (out ++ [(39 : UInt8)] ++ List.take ((IntKind.i64.wrap (i + (1 : Int))).toNat - i.toNat) (List.drop i.toNat s0)), AV.int IntKind.i64 (IntKind.i64.wrap (i + (1 : Int)))], [])) none) none) none) (br (decide ((0 : Int) ≤ IntKind.i64.wrap (i + (1 : Int))) && decide (IntKind.i64.wrap (i + (1 : Int)) ≤ (↑s0.length : Int)) && (decide ((0 : Int) ≤ i) && decide (i ≤ (↑(IntKind.i64.wrap (i + (1 : Int))).toNat : Int)))) (br (decide (out.length + (List.take ((IntKind.i64.wrap (i + (1 : Int))).toNat - i.toNat) (List.drop i.toNat s0)).length ≤ (4611686018427387904 : Nat))) (some (Exit.normal, [AV.str s0, AV.str (out ++ List.take ((IntKind.i64.wrap (i + (1 : Int))).toNat - i.toNat) (List.drop i.toNat s0)), AV.int IntKind.i64 (IntKind.i64.wrap (i + (1 : Int)))], [])) none) none)) none) (some (Exit.exit (0 : Nat), [AV.str out], [])) := by kernel_rfl
  rw [h]; unfold ref07_Quote_l0_step; repeat' (first | exact Enc.none | exact Enc.some rfl | refine Enc.br ?_ ?_)
noncomputable def ref07_Quote_l0_lp : Lp := ⟨[0, 3, 4], [3], [], fun vals H => match vals, H with
  | [AV.str s0, AV.str out, AV.int IntKind.i64 i], [] => some ((Iter (ref07_Quote_l0_step s0) (out, i)).isSome, ref07_Quote_l0_out s0 ((Iter (ref07_Quote_l0_step s0) (out, i)).getD []))
  | _, _ => none⟩
theorem ref07_Quote_l0_lok : LoopOk Tryd.prog (ITryd.at ref07_Quote_E0.pin) ref07_Quote_E0.nt (loopAt Tryd.f66 0) ref07_Quote_l0_lp := fun vals H r h => by
  unfold ref07_Quote_l0_lp at h; dsimp only at h; split at h
  · simp only [Option.some.injEq, Prod.mk.injEq] at h; obtain ⟨h1, rfl⟩ := h
    obtain ⟨q, hq⟩ := Option.isSome_iff_exists.1 h1
    rw [hq]
    exact loop_of_XR mxTryd (inv0Ok Tryd.prog _) rfl ref07_Quote_E0_ok ref07_Quote_E0_lk66_0 (ref07_Quote_l0_L _) (ref07_Quote_l0_out _) (fun p => by simp only [ref07_Quote_l0_out, LR.eval]; first | (simp; done) | (repeat' split <;> simp)) (fun s => ref07_Quote_l0_r _ _ _) hq
  · simp at h


/-- The environment of bitemporal/bitemporalref07.Quote: its loops so far. -/

noncomputable def ref07_Quote_E1 : Env := EL2_11.fn 26 0 (lsOf []) (lpsOf [(3, ref07_Quote_l0_lp)])

theorem ref07_Quote_E1_ok : OrcOk Tryd.prog (ITryd.at 0) ref07_Quote_E1 := EL2_11_ok.fn

theorem ref07_Quote_E1_lk66 : LoOk Tryd.prog (ITryd.at ref07_Quote_E1.pin) ref07_Quote_E1 (Tryd.f66.body.getD .skip) := loOk_all (ls := [loopAt Tryd.f66 0]) (by kernel_rfl) (fun l hl lp hs => by
  simp only [List.mem_cons, List.not_mem_nil, or_false] at hl
  rcases hl with rfl
  · rw [show ref07_Quote_E1.lp (codeId (loopAt Tryd.f66 0)) = some ref07_Quote_l0_lp by kernel_rfl] at hs
    simp only [Option.some.injEq] at hs; subst hs; exact ref07_Quote_l0_lok)

/- 5 nodes -/
noncomputable def ref07_Quote (s0 : List UInt8) : List UInt8 := (((Iter (ref07_Quote_l0_step s0) ([(39 : UInt8)], (0 : Int))).getD [] ++ [(39 : UInt8)]))
noncomputable def ref07_Quote_pre (s0 : List UInt8) : Bool := br ((Iter (ref07_Quote_l0_step s0) ([(39 : UInt8)], (0 : Int))).isSome) (br (decide (((Iter (ref07_Quote_l0_step s0) ([(39 : UInt8)], (0 : Int))).getD []).length + (1 : Nat) ≤ (4611686018427387904 : Nat))) (true) (false)) (false)
theorem ref07_Quote_x (s0 : List UInt8) : Pre (ref07_Quote_pre s0) (XF Tryd.prog ref07_Quote_E1 Tryd.f66 (Tryd.f66.body.getD .skip) [AV.str s0]) (AV.str (ref07_Quote s0)) := by
  have h : XF Tryd.prog ref07_Quote_E1 Tryd.f66 (Tryd.f66.body.getD .skip) [AV.str s0] = br (Iter (ref07_Quote_l0_step s0) ([(39 : UInt8)], (0 : Int))).isSome (br (decide (((Iter (ref07_Quote_l0_step s0) ([(39 : UInt8)], (0 : Int))).getD []).length + (1 : Nat) ≤ (4611686018427387904 : Nat))) (some (AV.str ((Iter (ref07_Quote_l0_step s0) ([(39 : UInt8)], (0 : Int))).getD [] ++ [(39 : UInt8)]))) none) none := by kernel_rfl
  rw [h]; unfold ref07_Quote ref07_Quote_pre; repeat' (first | exact Pre.none | exact Pre.tt rfl | exact Pre.some rfl | refine Pre.l ?_ | refine Pre.r ?_ | refine Pre.br (f := fun (p : List UInt8) => ((AV.str p) : AV)) ?_ ?_ | refine Pre.brt (f := fun (p : List UInt8) => ((AV.str p) : AV)) ?_ ?_)
noncomputable def ref07_Quote_o : List AV → Option (Bool × AV)
  | [AV.str s0] => some (ref07_Quote_pre s0, (AV.str (ref07_Quote s0)))
  | _ => none
theorem ref07_Quote_c : OcOk Tryd.prog ITryd 66 ref07_Quote_o := fun xs r h => by
  unfold ref07_Quote_o at h; split at h
  · simp only [Option.some.injEq, Prod.mk.injEq] at h; obtain ⟨h1, rfl⟩ := h
    exact good_pin (p := ref07_Quote_E1.pin) (good_XF mxTryd (inv0Ok Tryd.prog _) rfl ref07_Quote_E1_ok Tryd.func66 rfl (by kernel_rfl) ref07_Quote_E1_lk66 (Pre.get (ref07_Quote_x _) h1))
  · simp at h


noncomputable def EL2_12 : Env := EL2_11.with 66 ref07_Quote_o

theorem EL2_12_ok : OrcOk Tryd.prog ITryd EL2_12 := EL2_11_ok.with ref07_Quote_c

/-- The environment of bitemporal/bitemporalref07.Literal: its loops so far. -/

noncomputable def ref07_Literal_E0 : Env := EL2_12.fn 25 0 (lsOf []) (lpsOf [])

theorem ref07_Literal_E0_ok : OrcOk Tryd.prog (ITryd.at 0) ref07_Literal_E0 := EL2_12_ok.fn

theorem ref07_Literal_E0_lk44 : LoOk Tryd.prog (ITryd.at ref07_Literal_E0.pin) ref07_Literal_E0 (Tryd.f44.body.getD .skip) := loOk_nil (by kernel_rfl)

/- 17 nodes -/
noncomputable def ref07_Literal (v_k : Int) (v_i : Int) (v_t : List UInt8) : List UInt8 := (br (!ref07_Valid v_k v_i v_t) (([])) (br (v_k == (0 : Int) && (v_i == (0 : Int) && (v_t == [] && true))) (([(78 : UInt8), (85 : UInt8), (76 : UInt8), (76 : UInt8)])) (br (v_k == (3 : Int) && (v_i == (1 : Int) && (v_t == [] && true))) (([(84 : UInt8), (82 : UInt8), (85 : UInt8), (69 : UInt8)])) (br (v_k == (3 : Int) && (v_i == (0 : Int) && (v_t == [] && true))) (([(70 : UInt8), (65 : UInt8), (76 : UInt8), (83 : UInt8), (69 : UInt8)])) (br (v_k == (1 : Int)) ((ref07_Number v_i)) ((ref07_Quote v_t)))))))
noncomputable def ref07_Literal_pre (v_k : Int) (v_i : Int) (v_t : List UInt8) : Bool := br (ref07_Valid_pre v_k v_i v_t) (br (!ref07_Valid v_k v_i v_t) (true) (br (v_k == (0 : Int) && (v_i == (0 : Int) && (v_t == [] && true))) (true) (br (v_k == (3 : Int) && (v_i == (1 : Int) && (v_t == [] && true))) (true) (br (v_k == (3 : Int) && (v_i == (0 : Int) && (v_t == [] && true))) (true) (br (v_k == (1 : Int)) (br (ref07_Number_pre v_i) (true) (false)) (br (ref07_Quote_pre v_t) (true) (false))))))) (false)
theorem ref07_Literal_x (v_k : Int) (v_i : Int) (v_t : List UInt8) : Pre (ref07_Literal_pre v_k v_i v_t) (XF Tryd.prog ref07_Literal_E0 Tryd.f44 (Tryd.f44.body.getD .skip) [AV.agg [AV.int IntKind.i64 v_k, AV.int IntKind.i64 v_i, AV.str v_t]]) (AV.str (ref07_Literal v_k v_i v_t)) := by
  have h : XF Tryd.prog ref07_Literal_E0 Tryd.f44 (Tryd.f44.body.getD .skip) [AV.agg [AV.int IntKind.i64 v_k, AV.int IntKind.i64 v_i, AV.str v_t]] = br (ref07_Valid_pre v_k v_i v_t) (br (!ref07_Valid v_k v_i v_t) (some (AV.str [])) (br (v_k == (0 : Int) && (v_i == (0 : Int) && (v_t == [] && true))) (some (AV.str [(78 : UInt8), (85 : UInt8), (76 : UInt8), (76 : UInt8)])) (br (v_k == (3 : Int) && (v_i == (1 : Int) && (v_t == [] && true))) (some (AV.str [(84 : UInt8), (82 : UInt8), (85 : UInt8), (69 : UInt8)])) (br (v_k == (3 : Int) && (v_i == (0 : Int) && (v_t == [] && true))) (some (AV.str [(70 : UInt8), (65 : UInt8), (76 : UInt8), (83 : UInt8), (69 : UInt8)])) (br (v_k == (1 : Int)) (br (ref07_Number_pre v_i) (some (AV.str (ref07_Number v_i))) none) (br (ref07_Quote_pre v_t) (some (AV.str (ref07_Quote v_t))) none)))))) none := by kernel_rfl
  rw [h]; unfold ref07_Literal ref07_Literal_pre; repeat' (first | exact Pre.none | exact Pre.tt rfl | exact Pre.some rfl | refine Pre.l ?_ | refine Pre.r ?_ | refine Pre.br (f := fun (p : List UInt8) => ((AV.str p) : AV)) ?_ ?_ | refine Pre.brt (f := fun (p : List UInt8) => ((AV.str p) : AV)) ?_ ?_)
noncomputable def ref07_Literal_o : List AV → Option (Bool × AV)
  | [AV.agg [AV.int IntKind.i64 v_k, AV.int IntKind.i64 v_i, AV.str v_t]] => some (ref07_Literal_pre v_k v_i v_t, (AV.str (ref07_Literal v_k v_i v_t)))
  | _ => none
theorem ref07_Literal_c : OcOk Tryd.prog ITryd 44 ref07_Literal_o := fun xs r h => by
  unfold ref07_Literal_o at h; split at h
  · simp only [Option.some.injEq, Prod.mk.injEq] at h; obtain ⟨h1, rfl⟩ := h
    exact good_pin (p := ref07_Literal_E0.pin) (good_XF mxTryd (inv0Ok Tryd.prog _) rfl ref07_Literal_E0_ok Tryd.func44 rfl (by kernel_rfl) ref07_Literal_E0_lk44 (Pre.get (ref07_Literal_x _ _ _) h1))
  · simp at h


noncomputable def EL2_13 : Env := EL2_12.with 44 ref07_Literal_o

theorem EL2_13_ok : OrcOk Tryd.prog ITryd EL2_13 := EL2_12_ok.with ref07_Literal_c

/-- The environment of bitemporal/bitemporalref08.Text: its loops so far. -/

noncomputable def ref08_Text_E0 : Env := EL2_13.fn 24 0 (lsOf []) (lpsOf [])

theorem ref08_Text_E0_ok : OrcOk Tryd.prog (ITryd.at 0) ref08_Text_E0 := EL2_13_ok.fn

theorem ref08_Text_E0_lk20_0 : LoOk Tryd.prog (ITryd.at ref08_Text_E0.pin) ref08_Text_E0 (loopAt Tryd.f20 0) := loOk_nil (by kernel_rfl)

/- 23 nodes -/
noncomputable def ref08_Text_l0_step (row : List AV) : (List UInt8 × Int) → Option ((List UInt8 × Int) ⊕ (List UInt8)) := fun (s0, i) => br (decide (i < (↑row.length : Int))) (br (decide (i > (0 : Int))) (br (decide (s0.length + (2 : Nat) ≤ (4611686018427387904 : Nat))) (br (decide ((0 : Int) ≤ i) && decide (i < (↑row.length : Int))) (br (decide (i.toNat < row.length) && ((row.getD i.toNat AV.top).cells.length == (3 : Nat) && hasShs [Sh.int IntKind.i64, Sh.int IntKind.i64, Sh.str] (row.getD i.toNat AV.top).cells (0 : Nat))) (br (ref07_Literal_pre ((row.getD i.toNat AV.top).cells.getD (0 : Nat) AV.top).toInt ((row.getD i.toNat AV.top).cells.getD (1 : Nat) AV.top).toInt ((row.getD i.toNat AV.top).cells.getD (2 : Nat) AV.top).toStr) (br (decide ((s0 ++ [(44 : UInt8), (32 : UInt8)]).length + (ref07_Literal ((row.getD i.toNat AV.top).cells.getD (0 : Nat) AV.top).toInt ((row.getD i.toNat AV.top).cells.getD (1 : Nat) AV.top).toInt ((row.getD i.toNat AV.top).cells.getD (2 : Nat) AV.top).toStr).length ≤ (4611686018427387904 : Nat))) (some (.inl (s0 ++ [(44 : UInt8), (32 : UInt8)] ++ ref07_Literal ((row.getD i.toNat AV.top).cells.getD (0 : Nat) AV.top).toInt ((row.getD i.toNat AV.top).cells.getD (1 : Nat) AV.top).toInt ((row.getD i.toNat AV.top).cells.getD (2 : Nat) AV.top).toStr, IntKind.i64.wrap (i + (1 : Int))))) (none)) (none)) (none)) (none)) (none)) (br (decide ((0 : Int) ≤ i) && decide (i < (↑row.length : Int))) (br (decide (i.toNat < row.length) && ((row.getD i.toNat AV.top).cells.length == (3 : Nat) && hasShs [Sh.int IntKind.i64, Sh.int IntKind.i64, Sh.str] (row.getD i.toNat AV.top).cells (0 : Nat))) (br (ref07_Literal_pre ((row.getD i.toNat AV.top).cells.getD (0 : Nat) AV.top).toInt ((row.getD i.toNat AV.top).cells.getD (1 : Nat) AV.top).toInt ((row.getD i.toNat AV.top).cells.getD (2 : Nat) AV.top).toStr) (br (decide (s0.length + (ref07_Literal ((row.getD i.toNat AV.top).cells.getD (0 : Nat) AV.top).toInt ((row.getD i.toNat AV.top).cells.getD (1 : Nat) AV.top).toInt ((row.getD i.toNat AV.top).cells.getD (2 : Nat) AV.top).toStr).length ≤ (4611686018427387904 : Nat))) (some (.inl (s0 ++ ref07_Literal ((row.getD i.toNat AV.top).cells.getD (0 : Nat) AV.top).toInt ((row.getD i.toNat AV.top).cells.getD (1 : Nat) AV.top).toInt ((row.getD i.toNat AV.top).cells.getD (2 : Nat) AV.top).toStr, IntKind.i64.wrap (i + (1 : Int))))) (none)) (none)) (none)) (none))) (some (.inr (s0)))
noncomputable def ref08_Text_l0_L (row : List AV) : (List UInt8 × Int) → List AV × List Box := fun (s0, i) => ([AV.list (3 : Nat) row, AV.str s0, AV.int IntKind.i64 i], [])
noncomputable def ref08_Text_l0_out (row : List AV) : (List UInt8) → LR := fun p => (.leaf (Exit.exit (0 : Nat)) [AV.str p] [])
theorem ref08_Text_l0_r (row : List AV) (s0 : List UInt8) (i : Int) : Enc (encR (ref08_Text_l0_L row) (ref08_Text_l0_out row)) (ref08_Text_l0_step row (s0, i)) (XR Tryd.prog ref08_Text_E0 [0, 3, 4] [3] [] (loopAt Tryd.f20 0) [AV.list (3 : Nat) row, AV.str s0, AV.int IntKind.i64 i] []) := by
  have h : XR Tryd.prog ref08_Text_E0 [0, 3, 4] [3] [] (loopAt Tryd.f20 0) [AV.list (3 : Nat) row, AV.str s0, AV.int IntKind.i64 i] [] = br (decide (i < (↑row.length : Int))) (br (decide (i > (0 : Int))) (br (decide (s0.length + (2 : Nat) ≤ (4611686018427387904 : Nat))) (br (decide ((0 : Int) ≤ i) && decide (i < (↑row.length : Int))) (br (decide (i.toNat < row.length) && ((row.getD i.toNat AV.top).cells.length == (3 : Nat) && hasShs [Sh.int IntKind.i64, Sh.int IntKind.i64, Sh.str] (row.getD i.toNat AV.top).cells (0 : Nat))) (br (ref07_Literal_pre ((row.getD i.toNat AV.top).cells.getD (0 : Nat) AV.top).toInt ((row.getD i.toNat AV.top).cells.getD (1 : Nat) AV.top).toInt ((row.getD i.toNat AV.top).cells.getD (2 : Nat) AV.top).toStr) (br (decide ((s0 ++ [(44 : UInt8), (32 : UInt8)]).length + (ref07_Literal ((row.getD i.toNat AV.top).cells.getD (0 : Nat) AV.top).toInt ((row.getD i.toNat AV.top).cells.getD (1 : Nat) AV.top).toInt ((row.getD i.toNat AV.top).cells.getD (2 : Nat) AV.top).toStr).length ≤ (4611686018427387904 : Nat))) (some (Exit.normal, [AV.list (3 : Nat) row, AV.str (s0 ++ [(44 : UInt8), (32 : UInt8)] ++ ref07_Literal ((row.getD i.toNat AV.top).cells.getD (0 : Nat) AV.top).toInt ((row.getD i.toNat AV.top).cells.getD (1 : Nat) AV.top).toInt ((row.getD i.toNat AV.top).cells.getD (2 : Nat) AV.top).toStr), AV.int IntKind.i64 (IntKind.i64.wrap (i + (1 : Int)))], [])) none) none) none) none) none) (br (decide ((0 : Int) ≤ i) && decide (i < (↑row.length : Int))) (br (decide (i.toNat < row.length) && ((row.getD i.toNat AV.top).cells.length == (3 : Nat) && hasShs [Sh.int IntKind.i64, Sh.int IntKind.i64, Sh.str] (row.getD i.toNat AV.top).cells (0 : Nat))) (br (ref07_Literal_pre ((row.getD i.toNat AV.top).cells.getD (0 : Nat) AV.top).toInt ((row.getD i.toNat AV.top).cells.getD (1 : Nat) AV.top).toInt ((row.getD i.toNat AV.top).cells.getD (2 : Nat) AV.top).toStr) (br (decide (s0.length + (ref07_Literal ((row.getD i.toNat AV.top).cells.getD (0 : Nat) AV.top).toInt ((row.getD i.toNat AV.top).cells.getD (1 : Nat) AV.top).toInt ((row.getD i.toNat AV.top).cells.getD (2 : Nat) AV.top).toStr).length ≤ (4611686018427387904 : Nat))) (some (Exit.normal, [AV.list (3 : Nat) row, AV.str (s0 ++ ref07_Literal ((row.getD i.toNat AV.top).cells.getD (0 : Nat) AV.top).toInt ((row.getD i.toNat AV.top).cells.getD (1 : Nat) AV.top).toInt ((row.getD i.toNat AV.top).cells.getD (2 : Nat) AV.top).toStr), AV.int IntKind.i64 (IntKind.i64.wrap (i + (1 : Int)))], [])) none) none) none) none)) (some (Exit.exit (0 : Nat), [AV.str s0], [])) := by kernel_rfl
  rw [h]; unfold ref08_Text_l0_step; repeat' (first | exact Enc.none | exact Enc.some rfl | refine Enc.br ?_ ?_)
noncomputable def ref08_Text_l0_lp : Lp := ⟨[0, 3, 4], [3], [], fun vals H => match vals, H with
  | [AV.list (3 : Nat) row, AV.str s0, AV.int IntKind.i64 i], [] => some ((Iter (ref08_Text_l0_step row) (s0, i)).isSome, ref08_Text_l0_out row ((Iter (ref08_Text_l0_step row) (s0, i)).getD []))
  | _, _ => none⟩
theorem ref08_Text_l0_lok : LoopOk Tryd.prog (ITryd.at ref08_Text_E0.pin) ref08_Text_E0.nt (loopAt Tryd.f20 0) ref08_Text_l0_lp := fun vals H r h => by
  unfold ref08_Text_l0_lp at h; dsimp only at h; split at h
  · simp only [Option.some.injEq, Prod.mk.injEq] at h; obtain ⟨h1, rfl⟩ := h
    obtain ⟨q, hq⟩ := Option.isSome_iff_exists.1 h1
    rw [hq]
    exact loop_of_XR mxTryd (inv0Ok Tryd.prog _) rfl ref08_Text_E0_ok ref08_Text_E0_lk20_0 (ref08_Text_l0_L _) (ref08_Text_l0_out _) (fun p => by simp only [ref08_Text_l0_out, LR.eval]; first | (simp; done) | (repeat' split <;> simp)) (fun s => ref08_Text_l0_r _ _ _) hq
  · simp at h


/-- The environment of bitemporal/bitemporalref08.Text: its loops so far. -/

noncomputable def ref08_Text_E1 : Env := EL2_13.fn 24 0 (lsOf []) (lpsOf [(3, ref08_Text_l0_lp)])

theorem ref08_Text_E1_ok : OrcOk Tryd.prog (ITryd.at 0) ref08_Text_E1 := EL2_13_ok.fn

theorem ref08_Text_E1_lk20 : LoOk Tryd.prog (ITryd.at ref08_Text_E1.pin) ref08_Text_E1 (Tryd.f20.body.getD .skip) := loOk_all (ls := [loopAt Tryd.f20 0]) (by kernel_rfl) (fun l hl lp hs => by
  simp only [List.mem_cons, List.not_mem_nil, or_false] at hl
  rcases hl with rfl
  · rw [show ref08_Text_E1.lp (codeId (loopAt Tryd.f20 0)) = some ref08_Text_l0_lp by kernel_rfl] at hs
    simp only [Option.some.injEq] at hs; subst hs; exact ref08_Text_l0_lok)

/- 5 nodes -/
noncomputable def ref08_Text (row : List AV) : List UInt8 := (((Iter (ref08_Text_l0_step row) ([(40 : UInt8)], (0 : Int))).getD [] ++ [(41 : UInt8)]))
noncomputable def ref08_Text_pre (row : List AV) : Bool := br ((Iter (ref08_Text_l0_step row) ([(40 : UInt8)], (0 : Int))).isSome) (br (decide (((Iter (ref08_Text_l0_step row) ([(40 : UInt8)], (0 : Int))).getD []).length + (1 : Nat) ≤ (4611686018427387904 : Nat))) (true) (false)) (false)
theorem ref08_Text_x (row : List AV) : Pre (ref08_Text_pre row) (XF Tryd.prog ref08_Text_E1 Tryd.f20 (Tryd.f20.body.getD .skip) [AV.list (3 : Nat) row]) (AV.str (ref08_Text row)) := by
  have h : XF Tryd.prog ref08_Text_E1 Tryd.f20 (Tryd.f20.body.getD .skip) [AV.list (3 : Nat) row] = br (Iter (ref08_Text_l0_step row) ([(40 : UInt8)], (0 : Int))).isSome (br (decide (((Iter (ref08_Text_l0_step row) ([(40 : UInt8)], (0 : Int))).getD []).length + (1 : Nat) ≤ (4611686018427387904 : Nat))) (some (AV.str ((Iter (ref08_Text_l0_step row) ([(40 : UInt8)], (0 : Int))).getD [] ++ [(41 : UInt8)]))) none) none := by kernel_rfl
  rw [h]; unfold ref08_Text ref08_Text_pre; repeat' (first | exact Pre.none | exact Pre.tt rfl | exact Pre.some rfl | refine Pre.l ?_ | refine Pre.r ?_ | refine Pre.br (f := fun (p : List UInt8) => ((AV.str p) : AV)) ?_ ?_ | refine Pre.brt (f := fun (p : List UInt8) => ((AV.str p) : AV)) ?_ ?_)
noncomputable def ref08_Text_o : List AV → Option (Bool × AV)
  | [AV.list (3 : Nat) row] => some (ref08_Text_pre row, (AV.str (ref08_Text row)))
  | _ => none
theorem ref08_Text_c : OcOk Tryd.prog ITryd 20 ref08_Text_o := fun xs r h => by
  unfold ref08_Text_o at h; split at h
  · simp only [Option.some.injEq, Prod.mk.injEq] at h; obtain ⟨h1, rfl⟩ := h
    exact good_pin (p := ref08_Text_E1.pin) (good_XF mxTryd (inv0Ok Tryd.prog _) rfl ref08_Text_E1_ok Tryd.func20 rfl (by kernel_rfl) ref08_Text_E1_lk20 (Pre.get (ref08_Text_x _) h1))
  · simp at h


noncomputable def EL2_14 : Env := EL2_13.with 20 ref08_Text_o

theorem EL2_14_ok : OrcOk Tryd.prog ITryd EL2_14 := EL2_13_ok.with ref08_Text_c

noncomputable abbrev EL2 : Env := EL2_14

theorem EL2_ok : OrcOk Tryd.prog ITryd EL2 := EL2_14_ok

end Go.Sim.M
