/- Functions of the program as the executor found them: printed by program, checked by the kernel. -/
import Derived.Test.YtlapjnnkblbhdaaDoorL1
set_option linter.unusedVariables false
set_option linter.unusedSimpArgs false
set_option maxRecDepth 100000
namespace Go.Sim.M
open Go.RowKit Go.Proofs

/-- The environment of bitemporal/bitemporallaw08.short: its loops so far. -/

noncomputable def law08_short_E0 : Env := EL1.fn 6 0 (lsOf []) (lpsOf [])

theorem law08_short_E0_ok : OrcOk Tryd.prog (ITryd.at 0) law08_short_E0 := EL1_ok.fn

theorem law08_short_E0_lk15 : LoOk Tryd.prog (ITryd.at law08_short_E0.pin) law08_short_E0 (Tryd.f15.body.getD .skip) := loOk_nil (by kernel_rfl)

/- 1 nodes -/
noncomputable def law08_short (l : List AV) : Bool := ((decide ((↑l.length : Int) ≤ (300 : Int))))
noncomputable def law08_short_pre (l : List AV) : Bool := true
theorem law08_short_x (l : List AV) : Pre (law08_short_pre l) (XF Tryd.prog law08_short_E0 Tryd.f15 (Tryd.f15.body.getD .skip) [AV.list (1 : Nat) l]) (AV.bool (law08_short l)) := by
  have h : XF Tryd.prog law08_short_E0 Tryd.f15 (Tryd.f15.body.getD .skip) [AV.list (1 : Nat) l] = some (AV.bool (decide ((↑l.length : Int) ≤ (300 : Int)))) := by kernel_rfl
  rw [h]; unfold law08_short law08_short_pre; repeat' (first | exact Pre.none | exact Pre.tt rfl | exact Pre.some rfl | refine Pre.l ?_ | refine Pre.r ?_ | refine Pre.br (f := fun (p : Bool) => ((AV.bool p) : AV)) ?_ ?_ | refine Pre.brt (f := fun (p : Bool) => ((AV.bool p) : AV)) ?_ ?_)
noncomputable def law08_short_o : List AV → Option (Bool × AV)
  | [AV.list (1 : Nat) l] => some (law08_short_pre l, (AV.bool (law08_short l)))
  | _ => none
theorem law08_short_c : OcOk Tryd.prog ITryd 15 (law08_short_o) := fun xs r h => by
  unfold law08_short_o at h; split at h
  · simp only [Option.some.injEq, Prod.mk.injEq] at h; obtain ⟨h1, rfl⟩ := h
    exact good_pin (p := law08_short_E0.pin) (good_XF mxTryd (inv0Ok Tryd.prog _) rfl law08_short_E0_ok Tryd.func15 rfl (by kernel_rfl) law08_short_E0_lk15 (Pre.get (law08_short_x _) h1))
  · simp at h


noncomputable def EL3_1 : Env := EL1.with 15 law08_short_o

theorem EL3_1_ok : OrcOk Tryd.prog ITryd EL3_1 := EL1_ok.with law08_short_c

/-- The environment of bitemporal/bitemporalref08.before: its loops so far. -/

noncomputable def ref08_before_E0 : Env := EL3_1.fn 44 0 (lsOf []) (lpsOf [])

theorem ref08_before_E0_ok : OrcOk Tryd.prog (ITryd.at 0) ref08_before_E0 := EL3_1_ok.fn

theorem ref08_before_E0_lk57_0 : LoOk Tryd.prog (ITryd.at ref08_before_E0.pin) ref08_before_E0 (loopAt Tryd.f57 0) := loOk_nil (by kernel_rfl)

/- 21 nodes -/
noncomputable def ref08_before_l0_step (a : List AV) (b : List AV) (o : List AV) : (Int) → Option ((Int) ⊕ (Bool × (Bool) × (Unit))) := fun (i) => br (decide (i < (↑o.length : Int))) (br (decide ((0 : Int) ≤ i) && decide (i < (↑o.length : Int))) (br (decide (i.toNat < o.length) && hasSh1 (Sh.int IntKind.i64) ((o.getD i.toNat AV.top).cells.getD (0 : Nat) AV.top)) (br (ref08_At_pre a ((o.getD i.toNat AV.top).cells.getD (0 : Nat) AV.top).toInt) (br (decide ((0 : Int) ≤ i) && decide (i < (↑o.length : Int))) (br (decide (i.toNat < o.length) && hasSh1 (Sh.int IntKind.i64) ((o.getD i.toNat AV.top).cells.getD (0 : Nat) AV.top)) (br (ref08_At_pre b ((o.getD i.toNat AV.top).cells.getD (0 : Nat) AV.top).toInt) (br (ref07_Compare (ref08_At a ((o.getD i.toNat AV.top).cells.getD (0 : Nat) AV.top).toInt).fst (ref08_At a ((o.getD i.toNat AV.top).cells.getD (0 : Nat) AV.top).toInt).snd.fst (ref08_At a ((o.getD i.toNat AV.top).cells.getD (0 : Nat) AV.top).toInt).snd.snd (ref08_At b ((o.getD i.toNat AV.top).cells.getD (0 : Nat) AV.top).toInt).fst (ref08_At b ((o.getD i.toNat AV.top).cells.getD (0 : Nat) AV.top).toInt).snd.fst (ref08_At b ((o.getD i.toNat AV.top).cells.getD (0 : Nat) AV.top).toInt).snd.snd != (0 : Int)) (br (decide ((0 : Int) ≤ i) && decide (i < (↑o.length : Int))) (br (decide (i.toNat < o.length) && hasSh1 Sh.bool ((o.getD i.toNat AV.top).cells.getD (1 : Nat) AV.top)) (some (.inr (true, (!decide (ref07_Compare (ref08_At a ((o.getD i.toNat AV.top).cells.getD (0 : Nat) AV.top).toInt).fst (ref08_At a ((o.getD i.toNat AV.top).cells.getD (0 : Nat) AV.top).toInt).snd.fst (ref08_At a ((o.getD i.toNat AV.top).cells.getD (0 : Nat) AV.top).toInt).snd.snd (ref08_At b ((o.getD i.toNat AV.top).cells.getD (0 : Nat) AV.top).toInt).fst (ref08_At b ((o.getD i.toNat AV.top).cells.getD (0 : Nat) AV.top).toInt).snd.fst (ref08_At b ((o.getD i.toNat AV.top).cells.getD (0 : Nat) AV.top).toInt).snd.snd < (0 : Int)) == ((o.getD i.toNat AV.top).cells.getD (1 : Nat) AV.top).toBool), ()))) (none)) (none)) (some (.inl (IntKind.i64.wrap (i + (1 : Int)))))) (none)) (none)) (none)) (none)) (none)) (none)) (some (.inr (false, false, ())))
noncomputable def ref08_before_l0_L (a : List AV) (b : List AV) (o : List AV) : (Int) → List AV × List Box := fun (i) => ([AV.list (3 : Nat) a, AV.list (3 : Nat) b, AV.list (2 : Nat) o, AV.int IntKind.i64 i], [])
noncomputable def ref08_before_l0_out (a : List AV) (b : List AV) (o : List AV) : (Bool × (Bool) × (Unit)) → LR := fun p => (.node p.1 (.leaf (Exit.ret) [AV.list (3 : Nat) a, AV.list (3 : Nat) b, AV.bool p.2.1] []) (.leaf (Exit.exit (0 : Nat)) [AV.list (3 : Nat) a, AV.list (3 : Nat) b, AV.top] []))
theorem ref08_before_l0_r (a : List AV) (b : List AV) (o : List AV) (i : Int) : Enc (encR (ref08_before_l0_L a b o) (ref08_before_l0_out a b o)) (ref08_before_l0_step a b o (i)) (XR Tryd.prog ref08_before_E0 [0, 1, 2, 7] [0, 1, 6] [] (loopAt Tryd.f57 0) [AV.list (3 : Nat) a, AV.list (3 : Nat) b, AV.list (2 : Nat) o, AV.int IntKind.i64 i] []) := by
  have h : XR Tryd.prog ref08_before_E0 [0, 1, 2, 7] [0, 1, 6] [] (loopAt Tryd.f57 0) [AV.list (3 : Nat) a, AV.list (3 : Nat) b, AV.list (2 : Nat) o, AV.int IntKind.i64 i] [] = br (decide (i < (↑o.length : Int))) (br (decide ((0 : Int) ≤ i) && decide (i < (↑o.length : Int))) (br (decide (i.toNat < o.length) && hasSh1 (Sh.int IntKind.i64) ((o.getD i.toNat AV.top).cells.getD (0 : Nat) AV.top)) (br (ref08_At_pre a ((o.getD i.toNat AV.top).cells.getD (0 : Nat) AV.top).toInt) (br (decide ((0 : Int) ≤ i) && decide (i < (↑o.length : Int))) (br (decide (i.toNat < o.length) && hasSh1 (Sh.int IntKind.i64) ((o.getD i.toNat AV.top).cells.getD (0 : Nat) AV.top)) (br (ref08_At_pre b ((o.getD i.toNat AV.top).cells.getD (0 : Nat) AV.top).toInt) (br (ref07_Compare (ref08_At a ((o.getD i.toNat AV.top).cells.getD (0 : Nat) AV.top).toInt).fst (ref08_At a ((o.getD i.toNat AV.top).cells.getD (0 : Nat) AV.top).toInt).snd.fst (ref08_At a ((o.getD i.toNat AV.top).cells.getD (0 : Nat) AV.top).toInt).snd.snd (ref08_At b ((o.getD i.toNat AV.top).cells.getD (0 : Nat) AV.top).toInt).fst (ref08_At b ((o.getD i.toNat AV.top).cells.getD (0 : Nat) AV.top).toInt).snd.fst (ref08_At b ((o.getD i.toNat AV.top).cells.getD (0 : Nat) AV.top).toInt).snd.snd != (0 : Int)) (br (decide ((0 : Int) ≤ i) && decide (i < (↑o.length : Int))) (br (decide (i.toNat < o.length) && hasSh1 Sh.bool ((o.getD i.toNat AV.top).cells.getD (1 : Nat) AV.top)) (some (Exit.ret, [AV.list (3 : Nat) a, AV.list (3 : Nat) b, AV.bool !decide (ref07_Compare (ref08_At a ((o.getD i.toNat AV.top).cells.getD (0 : Nat) AV.top).toInt).fst (ref08_At a ((o.getD i.toNat AV.top).cells.getD (0 : Nat) AV.top).toInt).snd.fst (ref08_At a ((o.getD i.toNat AV.top).cells.getD (0 : Nat) AV.top).toInt).snd.snd (ref08_At b ((o.getD i.toNat AV.top).cells.getD (0 : Nat) AV.top).toInt).fst (ref08_At b ((o.getD i.toNat AV.top).cells.getD (0 : Nat) AV.top).toInt).snd.fst (ref08_At b ((o.getD i.toNat AV.top).cells.getD (0 : Nat) AV.top).toInt).snd.snd < (0 : Int)) == ((o.getD i.toNat AV.top).cells.getD (1 : Nat) AV.top).toBool], [])) none) none) (some (Exit.normal, [AV.list (3 : Nat) a, AV.list (3 : Nat) b, AV.list (2 : Nat) o, AV.int IntKind.i64 (IntKind.i64.wrap (i + (1 : Int)))], []))) none) none) none) none) none) none) (some (Exit.exit (0 : Nat), [AV.list (3 : Nat) a, AV.list (3 : Nat) b, AV.top], [])) := by kernel_rfl
  rw [h]; unfold ref08_before_l0_step; repeat' (first | exact Enc.none | exact Enc.some rfl | refine Enc.br ?_ ?_)
noncomputable def ref08_before_l0_lp : Lp := ⟨[0, 1, 2, 7], [0, 1, 6], [], fun vals H => match vals, H with
  | [AV.list (3 : Nat) a, AV.list (3 : Nat) b, AV.list (2 : Nat) o, AV.int IntKind.i64 i], [] => some ((Iter (ref08_before_l0_step a b o) (i)).isSome, ref08_before_l0_out a b o ((Iter (ref08_before_l0_step a b o) (i)).getD (false, false, ())))
  | _, _ => none⟩
theorem ref08_before_l0_lok : LoopOk Tryd.prog (ITryd.at ref08_before_E0.pin) ref08_before_E0.nt (loopAt Tryd.f57 0) ref08_before_l0_lp := fun vals H r h => by
  unfold ref08_before_l0_lp at h; dsimp only at h; split at h
  · simp only [Option.some.injEq, Prod.mk.injEq] at h; obtain ⟨h1, rfl⟩ := h
    obtain ⟨q, hq⟩ := Option.isSome_iff_exists.1 h1
    rw [hq]
    exact loop_of_XR mxTryd (inv0Ok Tryd.prog _) rfl ref08_before_E0_ok ref08_before_E0_lk57_0 (ref08_before_l0_L _ _ _) (ref08_before_l0_out _ _ _) (fun p => by simp only [ref08_before_l0_out, LR.eval]; first | (simp; done) | (repeat' split <;> simp)) (fun s => ref08_before_l0_r _ _ _ _) hq
  · simp at h


/-- The environment of bitemporal/bitemporalref08.before: its loops so far. -/

noncomputable def ref08_before_E1 : Env := EL3_1.fn 44 0 (lsOf []) (lpsOf [(2, ref08_before_l0_lp)])

theorem ref08_before_E1_ok : OrcOk Tryd.prog (ITryd.at 0) ref08_before_E1 := EL3_1_ok.fn

theorem ref08_before_E1_lk57 : LoOk Tryd.prog (ITryd.at ref08_before_E1.pin) ref08_before_E1 (Tryd.f57.body.getD .skip) := loOk_all (ls := [loopAt Tryd.f57 0]) (by kernel_rfl) (fun l hl lp hs => by
  simp only [List.mem_cons, List.not_mem_nil, or_false] at hl
  rcases hl with rfl
  · rw [show ref08_before_E1.lp (codeId (loopAt Tryd.f57 0)) = some ref08_before_l0_lp by kernel_rfl] at hs
    simp only [Option.some.injEq] at hs; subst hs; exact ref08_before_l0_lok)

/- 7 nodes -/
noncomputable def ref08_before (a : List AV) (b : List AV) (o : List AV) : Bool := (br (((Iter (ref08_before_l0_step a b o) (0 : Int)).getD (false, false, ())).fst) ((((Iter (ref08_before_l0_step a b o) (0 : Int)).getD (false, false, ())).snd.fst)) ((decide (ref08_Compare a b < (0 : Int)))))
noncomputable def ref08_before_pre (a : List AV) (b : List AV) (o : List AV) : Bool := br ((Iter (ref08_before_l0_step a b o) (0 : Int)).isSome) (br (((Iter (ref08_before_l0_step a b o) (0 : Int)).getD (false, false, ())).fst) (true) (br (ref08_Compare_pre a b) (true) (false))) (false)
theorem ref08_before_x (a : List AV) (b : List AV) (o : List AV) : Pre (ref08_before_pre a b o) (XF Tryd.prog ref08_before_E1 Tryd.f57 (Tryd.f57.body.getD .skip) [AV.list (3 : Nat) a, AV.list (3 : Nat) b, AV.list (2 : Nat) o]) (AV.bool (ref08_before a b o)) := by
  have h : XF Tryd.prog ref08_before_E1 Tryd.f57 (Tryd.f57.body.getD .skip) [AV.list (3 : Nat) a, AV.list (3 : Nat) b, AV.list (2 : Nat) o] = br (Iter (ref08_before_l0_step a b o) (0 : Int)).isSome (br ((Iter (ref08_before_l0_step a b o) (0 : Int)).getD (false, false, ())).fst (some (AV.bool ((Iter (ref08_before_l0_step a b o) (0 : Int)).getD (false, false, ())).snd.fst)) (br (ref08_Compare_pre a b) (some (AV.bool (decide (ref08_Compare a b < (0 : Int))))) none)) none := by kernel_rfl
  rw [h]; unfold ref08_before ref08_before_pre; repeat' (first | exact Pre.none | exact Pre.tt rfl | exact Pre.some rfl | refine Pre.l ?_ | refine Pre.r ?_ | refine Pre.br (f := fun (p : Bool) => ((AV.bool p) : AV)) ?_ ?_ | refine Pre.brt (f := fun (p : Bool) => ((AV.bool p) : AV)) ?_ ?_)
noncomputable def ref08_before_o : List AV → Option (Bool × AV)
  | [AV.list (3 : Nat) a, AV.list (3 : Nat) b, AV.list (2 : Nat) o] => some (ref08_before_pre a b o, (AV.bool (ref08_before a b o)))
  | _ => none
theorem ref08_before_c : OcOk Tryd.prog ITryd 57 (ref08_before_o) := fun xs r h => by
  unfold ref08_before_o at h; split at h
  · simp only [Option.some.injEq, Prod.mk.injEq] at h; obtain ⟨h1, rfl⟩ := h
    exact good_pin (p := ref08_before_E1.pin) (good_XF mxTryd (inv0Ok Tryd.prog _) rfl ref08_before_E1_ok Tryd.func57 rfl (by kernel_rfl) ref08_before_E1_lk57 (Pre.get (ref08_before_x _ _ _) h1))
  · simp at h


noncomputable def EL3_2 : Env := EL3_1.with 57 ref08_before_o

theorem EL3_2_ok : OrcOk Tryd.prog ITryd EL3_2 := EL3_1_ok.with ref08_before_c

/-- The environment of bitemporal/bitemporalref08.merged: its loops so far. -/

noncomputable def ref08_merged_E0 : Env := EL3_2.fn 62 0 (lsOf []) (lpsOf [])

theorem ref08_merged_E0_ok : OrcOk Tryd.prog (ITryd.at 0) ref08_merged_E0 := EL3_2_ok.fn

theorem ref08_merged_E0_lk41_0 : LoOk Tryd.prog (ITryd.at ref08_merged_E0.pin) ref08_merged_E0 (loopAt Tryd.f41 0) := loOk_nil (by kernel_rfl)

/- 85 nodes -/
noncomputable def ref08_merged_l0_step (a : List AV) (b : List AV) (o : List AV) : (Nat × Int × Int × List AV) → Option ((Nat × Int × Int × List AV) ⊕ (Nat × List AV)) := fun (out_n, i, k, out_xs) => br (decide (i < (↑a.length : Int))) (br (i == (↑a.length : Int)) (br (decide ((0 : Int) ≤ k) && decide (k < (↑b.length : Int))) (br (decide (k.toNat < b.length) && hasSh1 (Sh.list (3 : Nat)) ((b.getD k.toNat AV.top).cells.getD (0 : Nat) AV.top)) (br (out_n == out_xs.length && (decide ((out_n + (1 : Nat)) * (24 : Nat) ≤ (140737488355328 : Nat)) && decide (out_n + (1 : Nat) ≤ (4611686018427387904 : Nat)))) (some (.inl (out_n + (1 : Nat), i, IntKind.i64.wrap (k + (1 : Int)), out_xs ++ [AV.list (3 : Nat) ((b.getD k.toNat AV.top).cells.getD (0 : Nat) AV.top).toList]))) (none)) (none)) (none)) (br (decide (k < (↑b.length : Int))) (br (decide ((0 : Int) ≤ k) && decide (k < (↑b.length : Int))) (br (decide (k.toNat < b.length) && hasSh1 (Sh.list (3 : Nat)) ((b.getD k.toNat AV.top).cells.getD (0 : Nat) AV.top)) (br (decide ((0 : Int) ≤ i) && decide (i < (↑a.length : Int))) (br (decide (i.toNat < a.length) && hasSh1 (Sh.list (3 : Nat)) ((a.getD i.toNat AV.top).cells.getD (0 : Nat) AV.top)) (br (ref08_before_pre ((b.getD k.toNat AV.top).cells.getD (0 : Nat) AV.top).toList ((a.getD i.toNat AV.top).cells.getD (0 : Nat) AV.top).toList o) (br (ref08_before ((b.getD k.toNat AV.top).cells.getD (0 : Nat) AV.top).toList ((a.getD i.toNat AV.top).cells.getD (0 : Nat) AV.top).toList o) (br (decide ((0 : Int) ≤ k) && decide (k < (↑b.length : Int))) (br (decide (k.toNat < b.length) && hasSh1 (Sh.list (3 : Nat)) ((b.getD k.toNat AV.top).cells.getD (0 : Nat) AV.top)) (br (out_n == out_xs.length && (decide ((out_n + (1 : Nat)) * (24 : Nat) ≤ (140737488355328 : Nat)) && decide (out_n + (1 : Nat) ≤ (4611686018427387904 : Nat)))) (some (.inl (out_n + (1 : Nat), i, IntKind.i64.wrap (k + (1 : Int)), out_xs ++ [AV.list (3 : Nat) ((b.getD k.toNat AV.top).cells.getD (0 : Nat) AV.top).toList]))) (none)) (none)) (none)) (br (decide ((0 : Int) ≤ i) && decide (i < (↑a.length : Int))) (br (decide (i.toNat < a.length) && hasSh1 (Sh.list (3 : Nat)) ((a.getD i.toNat AV.top).cells.getD (0 : Nat) AV.top)) (br (out_n == out_xs.length && (decide ((out_n + (1 : Nat)) * (24 : Nat) ≤ (140737488355328 : Nat)) && decide (out_n + (1 : Nat) ≤ (4611686018427387904 : Nat)))) (some (.inl (out_n + (1 : Nat), IntKind.i64.wrap (i + (1 : Int)), k, out_xs ++ [AV.list (3 : Nat) ((a.getD i.toNat AV.top).cells.getD (0 : Nat) AV.top).toList]))) (none)) (none)) (none))) (none)) (none)) (none)) (none)) (none)) (br (decide ((0 : Int) ≤ i) && decide (i < (↑a.length : Int))) (br (decide (i.toNat < a.length) && hasSh1 (Sh.list (3 : Nat)) ((a.getD i.toNat AV.top).cells.getD (0 : Nat) AV.top)) (br (out_n == out_xs.length && (decide ((out_n + (1 : Nat)) * (24 : Nat) ≤ (140737488355328 : Nat)) && decide (out_n + (1 : Nat) ≤ (4611686018427387904 : Nat)))) (some (.inl (out_n + (1 : Nat), IntKind.i64.wrap (i + (1 : Int)), k, out_xs ++ [AV.list (3 : Nat) ((a.getD i.toNat AV.top).cells.getD (0 : Nat) AV.top).toList]))) (none)) (none)) (none)))) (br (decide (k < (↑b.length : Int))) (br (i == (↑a.length : Int)) (br (decide ((0 : Int) ≤ k) && decide (k < (↑b.length : Int))) (br (decide (k.toNat < b.length) && hasSh1 (Sh.list (3 : Nat)) ((b.getD k.toNat AV.top).cells.getD (0 : Nat) AV.top)) (br (out_n == out_xs.length && (decide ((out_n + (1 : Nat)) * (24 : Nat) ≤ (140737488355328 : Nat)) && decide (out_n + (1 : Nat) ≤ (4611686018427387904 : Nat)))) (some (.inl (out_n + (1 : Nat), i, IntKind.i64.wrap (k + (1 : Int)), out_xs ++ [AV.list (3 : Nat) ((b.getD k.toNat AV.top).cells.getD (0 : Nat) AV.top).toList]))) (none)) (none)) (none)) (br (decide (k < (↑b.length : Int))) (br (decide ((0 : Int) ≤ k) && decide (k < (↑b.length : Int))) (br (decide (k.toNat < b.length) && hasSh1 (Sh.list (3 : Nat)) ((b.getD k.toNat AV.top).cells.getD (0 : Nat) AV.top)) (br (decide ((0 : Int) ≤ i) && decide (i < (↑a.length : Int))) (br (decide (i.toNat < a.length) && hasSh1 (Sh.list (3 : Nat)) ((a.getD i.toNat AV.top).cells.getD (0 : Nat) AV.top)) (br (ref08_before_pre ((b.getD k.toNat AV.top).cells.getD (0 : Nat) AV.top).toList ((a.getD i.toNat AV.top).cells.getD (0 : Nat) AV.top).toList o) (br (ref08_before ((b.getD k.toNat AV.top).cells.getD (0 : Nat) AV.top).toList ((a.getD i.toNat AV.top).cells.getD (0 : Nat) AV.top).toList o) (br (decide ((0 : Int) ≤ k) && decide (k < (↑b.length : Int))) (br (decide (k.toNat < b.length) && hasSh1 (Sh.list (3 : Nat)) ((b.getD k.toNat AV.top).cells.getD (0 : Nat) AV.top)) (br (out_n == out_xs.length && (decide ((out_n + (1 : Nat)) * (24 : Nat) ≤ (140737488355328 : Nat)) && decide (out_n + (1 : Nat) ≤ (4611686018427387904 : Nat)))) (some (.inl (out_n + (1 : Nat), i, IntKind.i64.wrap (k + (1 : Int)), out_xs ++ [AV.list (3 : Nat) ((b.getD k.toNat AV.top).cells.getD (0 : Nat) AV.top).toList]))) (none)) (none)) (none)) (br (decide ((0 : Int) ≤ i) && decide (i < (↑a.length : Int))) (br (decide (i.toNat < a.length) && hasSh1 (Sh.list (3 : Nat)) ((a.getD i.toNat AV.top).cells.getD (0 : Nat) AV.top)) (br (out_n == out_xs.length && (decide ((out_n + (1 : Nat)) * (24 : Nat) ≤ (140737488355328 : Nat)) && decide (out_n + (1 : Nat) ≤ (4611686018427387904 : Nat)))) (some (.inl (out_n + (1 : Nat), IntKind.i64.wrap (i + (1 : Int)), k, out_xs ++ [AV.list (3 : Nat) ((a.getD i.toNat AV.top).cells.getD (0 : Nat) AV.top).toList]))) (none)) (none)) (none))) (none)) (none)) (none)) (none)) (none)) (br (decide ((0 : Int) ≤ i) && decide (i < (↑a.length : Int))) (br (decide (i.toNat < a.length) && hasSh1 (Sh.list (3 : Nat)) ((a.getD i.toNat AV.top).cells.getD (0 : Nat) AV.top)) (br (out_n == out_xs.length && (decide ((out_n + (1 : Nat)) * (24 : Nat) ≤ (140737488355328 : Nat)) && decide (out_n + (1 : Nat) ≤ (4611686018427387904 : Nat)))) (some (.inl (out_n + (1 : Nat), IntKind.i64.wrap (i + (1 : Int)), k, out_xs ++ [AV.list (3 : Nat) ((a.getD i.toNat AV.top).cells.getD (0 : Nat) AV.top).toList]))) (none)) (none)) (none)))) (some (.inr (out_n, out_xs))))
noncomputable def ref08_merged_l0_L (a : List AV) (b : List AV) (o : List AV) : (Nat × Int × Int × List AV) → List AV × List Box := fun (out_n, i, k, out_xs) => ([AV.list (1 : Nat) a, AV.list (1 : Nat) b, AV.list (2 : Nat) o, AV.osl 0 0 0 out_n, AV.int IntKind.i64 i, AV.int IntKind.i64 k], [⟨0, (1 : Nat), (22 : Nat), out_xs, false, true⟩])
noncomputable def ref08_merged_l0_out (a : List AV) (b : List AV) (o : List AV) : (Nat × List AV) → LR := fun p => (.leaf (Exit.exit (0 : Nat)) [AV.osl 0 0 0 p.1] [⟨0, (1 : Nat), (22 : Nat), p.2, false, true⟩])
theorem ref08_merged_l0_r (a : List AV) (b : List AV) (o : List AV) (out_n : Nat) (i : Int) (k : Int) (out_xs : List AV) : Enc (encR (ref08_merged_l0_L a b o) (ref08_merged_l0_out a b o)) (ref08_merged_l0_step a b o (out_n, i, k, out_xs)) (XR Tryd.prog ref08_merged_E0 [0, 1, 2, 7, 8, 9] [7] [(7, 1, 22)] (loopAt Tryd.f41 0) [AV.list (1 : Nat) a, AV.list (1 : Nat) b, AV.list (2 : Nat) o, AV.osl 0 0 0 out_n, AV.int IntKind.i64 i, AV.int IntKind.i64 k] [⟨0, (1 : Nat), (22 : Nat), out_xs, false, true⟩]) := by
  have h : XR Tryd.prog ref08_merged_E0 [0, 1, 2, 7, 8, 9] [7] [(7, 1, 22)] (loopAt Tryd.f41 0) [AV.list (1 : Nat) a, AV.list (1 : Nat) b, AV.list (2 : Nat) o, AV.osl 0 0 0 out_n, AV.int IntKind.i64 i, AV.int IntKind.i64 k] [⟨0, (1 : Nat), (22 : Nat), out_xs, false, true⟩] = br (decide (i < (↑a.length : Int))) (br (i == (↑a.length : Int)) (br (decide ((0 : Int) ≤ k) && decide (k < (↑b.length : Int))) (br (decide (k.toNat < b.length) && hasSh1 (Sh.list (3 : Nat)) ((b.getD k.toNat AV.top).cells.getD (0 : Nat) AV.top)) (br (out_n == out_xs.length && (decide ((out_n + (1 : Nat)) * (24 : Nat) ≤ (140737488355328 : Nat)) && decide (out_n + (1 : Nat) ≤ (4611686018427387904 : Nat)))) (some (Exit.normal, [AV.list (1 : Nat) a, AV.list (1 : Nat) b, AV.list (2 : Nat) o, AV.osl (0 : Nat) (0 : Nat) (0 : Nat) (out_n + (1 : Nat)), AV.int IntKind.i64 i, AV.int IntKind.i64 (IntKind.i64.wrap (k + (1 : Int)))], [{ ver := (0 : Nat), sz := (1 : Nat), ty := (22 : Nat), xs := out_xs ++ [AV.list (3 : Nat) ((b.getD k.toNat AV.top).cells.getD (0 : Nat) AV.top).toList], frz := false, pm := true }])) none) none) none) (br (decide (k < (↑b.length : Int))) (br (decide ((0 : Int) ≤ k) && decide (k < (↑b.length : Int))) (br (decide (k.toNat < b.length) && hasSh1 (Sh.list (3 : Nat)) ((b.getD k.toNat AV.top).cells.getD (0 : Nat) AV.top)) (br (decide ((0 : Int) ≤ i) && decide (i < (↑a.length : Int))) (br (decide (i.toNat < a.length) && hasSh1 (Sh.list (3 : Nat)) ((a.getD i.toNat AV.top).cells.getD (0 : Nat) AV.top)) (br (ref08_before_pre ((b.getD k.toNat AV.top).cells.getD (0 : Nat) AV.top).toList ((a.getD i.toNat AV.top).cells.getD (0 : Nat) AV.top).toList o) (br (ref08_before ((b.getD k.toNat AV.top).cells.getD (0 : Nat) AV.top).toList ((a.getD i.toNat AV.top).cells.getD (0 : Nat) AV.top).toList o) (br (decide ((0 : Int) ≤ k) && decide (k < (↑b.length : Int))) (br (decide (k.toNat < b.length) && hasSh1 (Sh.list (3 : Nat)) ((b.getD k.toNat AV.top).cells.getD (0 : Nat) AV.top)) (br (out_n == out_xs.length && (decide ((out_n + (1 : Nat)) * (24 : Nat) ≤ (140737488355328 : Nat)) && decide (out_n + (1 : Nat) ≤ (4611686018427387904 : Nat)))) (some (Exit.normal, [AV.list (1 : Nat) a, AV.list (1 : Nat) b, AV.list (2 : Nat) o, AV.osl (0 : Nat) (0 : Nat) (0 : Nat) (out_n + (1 : Nat)), AV.int IntKind.i64 i, AV.int IntKind.i64 (IntKind.i64.wrap (k + (1 : Int)))], [{ ver := (0 : Nat), sz := (1 : Nat), ty := (22 : Nat), xs := out_xs ++ [AV.list (3 : Nat) ((b.getD k.toNat AV.top).cells.getD (0 : Nat) AV.top).toList], frz := false, pm := true }])) none) none) none) (br (decide ((0 : Int) ≤ i) && decide (i < (↑a.length : Int))) (br (decide (i.toNat < a.length) && hasSh1 (Sh.list (3 : Nat)) ((a.getD i.toNat AV.top).cells.getD (0 : Nat) AV.top)) (br (out_n == out_xs.length && (decide ((out_n + (1 : Nat)) * (24 : Nat) ≤ (140737488355328 : Nat)) && decide (out_n + (1 : Nat) ≤ (4611686018427387904 : Nat)))) (some (Exit.normal, [AV.list (1 : Nat) a, AV.list (1 : Nat) b, AV.list (2 : Nat) o, AV.osl (0 : Nat) (0 : Nat) (0 : Nat) (out_n + (1 : Nat)), AV.int IntKind.i64 (IntKind.i64.wrap (i + (1 : Int))), AV.int IntKind.i64 k], [{ ver := (0 : Nat), sz := (1 : Nat), ty := (22 : Nat), xs := out_xs ++ [AV.list (3 : Nat) ((a.getD i.toNat AV.top).cells.getD (0 : Nat) AV.top).toList], frz := false, pm := true }])) none) none) none)) none) none) none) none) none) (br (decide ((0 : Int) ≤ i) && decide (i < (↑a.length : Int))) (br (decide (i.toNat < a.length) && hasSh1 (Sh.list (3 : Nat)) ((a.getD i.toNat AV.top).cells.getD (0 : Nat) AV.top)) (br (out_n == out_xs.length && (decide ((out_n + (1 : Nat)) * (24 : Nat) ≤ (140737488355328 : Nat)) && decide (out_n + (1 : Nat) ≤ (4611686018427387904 : Nat)))) (some (Exit.normal, [AV.list (1 : Nat) a, AV.list (1 : Nat) b, AV.list (2 : Nat) o, AV.osl (0 : Nat) (0 : Nat) (0 : Nat) (out_n + (1 : Nat)), AV.int IntKind.i64 (IntKind.i64.wrap (i + (1 : Int))), AV.int IntKind.i64 k], [{ ver := (0 : Nat), sz := (1 : Nat), ty := (22 : Nat), xs := out_xs ++ [AV.list (3 : Nat) ((a.getD i.toNat AV.top).cells.getD (0 : Nat) AV.top).toList], frz := false, pm := true }])) none) none) none))) (br (decide (k < (↑b.length : Int))) (br (i == (↑a.length : Int)) (br (decide ((0 : Int) ≤ k) && decide (k < (↑b.length : Int))) (br (decide (k.toNat < b.length) && hasSh1 (Sh.list (3 : Nat)) ((b.getD k.toNat AV.top).cells.getD (0 : Nat) AV.top)) (br (out_n == out_xs.length && (decide ((out_n + (1 : Nat)) * (24 : Nat) ≤ (140737488355328 : Nat)) && decide (out_n + (1 : Nat) ≤ (4611686018427387904 : Nat)))) (some (Exit.normal, [AV.list (1 : Nat) a, AV.list (1 : Nat) b, AV.list (2 : Nat) o, AV.osl (0 : Nat) (0 : Nat) (0 : Nat) (out_n + (1 : Nat)), AV.int IntKind.i64 i, AV.int IntKind.i64 (IntKind.i64.wrap (k + (1 : Int)))], [{ ver := (0 : Nat), sz := (1 : Nat), ty := (22 : Nat), xs := out_xs ++ [AV.list (3 : Nat) ((b.getD k.toNat AV.top).cells.getD (0 : Nat) AV.top).toList], frz := false, pm := true }])) none) none) none) (br (decide (k < (↑b.length : Int))) (br (decide ((0 : Int) ≤ k) && decide (k < (↑b.length : Int))) (br (decide (k.toNat < b.length) && hasSh1 (Sh.list (3 : Nat)) ((b.getD k.toNat AV.top).cells.getD (0 : Nat) AV.top)) (br (decide ((0 : Int) ≤ i) && decide (i < (↑a.length : Int))) (br (decide (i.toNat < a.length) && hasSh1 (Sh.list (3 : Nat)) ((a.getD i.toNat AV.top).cells.getD (0 : Nat) AV.top)) (br (ref08_before_pre ((b.getD k.toNat AV.top).cells.getD (0 : Nat) AV.top).toList ((a.getD i.toNat AV.top).cells.getD (0 : Nat) AV.top).toList o) (br (ref08_before ((b.getD k.toNat AV.top).cells.getD (0 : Nat) AV.top).toList ((a.getD i.toNat AV.top).cells.getD (0 : Nat) AV.top).toList o) (br (decide ((0 : Int) ≤ k) && decide (k < (↑b.length : Int))) (br (decide (k.toNat < b.length) && hasSh1 (Sh.list (3 : Nat)) ((b.getD k.toNat AV.top).cells.getD (0 : Nat) AV.top)) (br (out_n == out_xs.length && (decide ((out_n + (1 : Nat)) * (24 : Nat) ≤ (140737488355328 : Nat)) && decide (out_n + (1 : Nat) ≤ (4611686018427387904 : Nat)))) (some (Exit.normal, [AV.list (1 : Nat) a, AV.list (1 : Nat) b, AV.list (2 : Nat) o, AV.osl (0 : Nat) (0 : Nat) (0 : Nat) (out_n + (1 : Nat)), AV.int IntKind.i64 i, AV.int IntKind.i64 (IntKind.i64.wrap (k + (1 : Int)))], [{ ver := (0 : Nat), sz := (1 : Nat), ty := (22 : Nat), xs := out_xs ++ [AV.list (3 : Nat) ((b.getD k.toNat AV.top).cells.getD (0 : Nat) AV.top).toList], frz := false, pm := true }])) none) none) none) (br (decide ((0 : Int) ≤ i) && decide (i < (↑a.length : Int))) (br (decide (i.toNat < a.length) && hasSh1 (Sh.list (3 : Nat)) ((a.getD i.toNat AV.top).cells.getD (0 : Nat) AV.top)) (br (out_n == out_xs.length && (decide ((out_n + (1 : Nat)) * (24 : Nat) ≤ (140737488355328 : Nat)) && decide (out_n + (1 : Nat) ≤ (4611686018427387904 : Nat)))) (some (Exit.normal, [AV.list (1 : Nat) a, AV.list (1 : Nat) b, AV.list (2 : Nat) o, AV.osl (0 : Nat) (0 : Nat) (0 : Nat) (out_n + (1 : Nat)), AV.int IntKind.i64 (IntKind.i64.wrap (i + (1 : Int))), AV.int IntKind.i64 k], [{ ver := (0 : Nat), sz := (1 : Nat), ty := (22 : Nat), xs := out_xs ++ [AV.list (3 : Nat) ((a.getD i.toNat AV.top).cells.getD (0 : Nat) AV.top).toList], frz := false, pm := true }])) none) none) none)) none) none) none) none) none) (br (decide ((0 : Int) ≤ i) && decide (i < (↑a.length : Int))) (br (decide (i.toNat < a.length) && hasSh1 (Sh.list (3 : Nat)) ((a.getD i.toNat AV.top).cells.getD (0 : Nat) AV.top)) (br (out_n == out_xs.length && (decide ((out_n + (1 : Nat)) * (24 : Nat) ≤ (140737488355328 : Nat)) && decide (out_n + (1 : Nat) ≤ (4611686018427387904 : Nat)))) (some (Exit.normal, [AV.list (1 : Nat) a, AV.list (1 : Nat) b, AV.list (2 : Nat) o, AV.osl (0 : Nat) (0 : Nat) (0 : Nat) (out_n + (1 : Nat)), AV.int IntKind.i64 (IntKind.i64.wrap (i + (1 : Int))), AV.int IntKind.i64 k], [{ ver := (0 : Nat), sz := (1 : Nat), ty := (22 : Nat), xs := out_xs ++ [AV.list (3 : Nat) ((a.getD i.toNat AV.top).cells.getD (0 : Nat) AV.top).toList], frz := false, pm := true }])) none) none) none))) (some (Exit.exit (0 : Nat), [AV.osl (0 : Nat) (0 : Nat) (0 : Nat) out_n], [{ ver := (0 : Nat), sz := (1 : Nat), ty := (22 : Nat), xs := out_xs, frz := false, pm := true }]))) := by kernel_rfl
  rw [h]; unfold ref08_merged_l0_step; repeat' (first | exact Enc.none | exact Enc.some rfl | refine Enc.br ?_ ?_)
noncomputable def ref08_merged_l0_lp : Lp := ⟨[0, 1, 2, 7, 8, 9], [7], [(7, 1, 22)], fun vals H => match vals, H with
  | [AV.list (1 : Nat) a, AV.list (1 : Nat) b, AV.list (2 : Nat) o, AV.osl 0 0 0 out_n, AV.int IntKind.i64 i, AV.int IntKind.i64 k], [⟨0, (1 : Nat), (22 : Nat), out_xs, false, true⟩] => some ((Iter (ref08_merged_l0_step a b o) (out_n, i, k, out_xs)).isSome, ref08_merged_l0_out a b o ((Iter (ref08_merged_l0_step a b o) (out_n, i, k, out_xs)).getD (0, [])))
  | _, _ => none⟩
theorem ref08_merged_l0_lok : LoopOk Tryd.prog (ITryd.at ref08_merged_E0.pin) ref08_merged_E0.nt (loopAt Tryd.f41 0) ref08_merged_l0_lp := fun vals H r h => by
  unfold ref08_merged_l0_lp at h; dsimp only at h; split at h
  · simp only [Option.some.injEq, Prod.mk.injEq] at h; obtain ⟨h1, rfl⟩ := h
    obtain ⟨q, hq⟩ := Option.isSome_iff_exists.1 h1
    rw [hq]
    exact loop_of_XR mxTryd (inv0Ok Tryd.prog _) rfl ref08_merged_E0_ok ref08_merged_E0_lk41_0 (ref08_merged_l0_L _ _ _) (ref08_merged_l0_out _ _ _) (fun p => by simp only [ref08_merged_l0_out, LR.eval]; first | (simp; done) | (repeat' split <;> simp)) (fun s => ref08_merged_l0_r _ _ _ _ _ _ _) hq
  · simp at h


/-- The environment of bitemporal/bitemporalref08.merged: its loops so far. -/

noncomputable def ref08_merged_E1 : Env := EL3_2.fn 62 0 (lsOf []) (lpsOf [(3, ref08_merged_l0_lp)])

theorem ref08_merged_E1_ok : OrcOk Tryd.prog (ITryd.at 0) ref08_merged_E1 := EL3_2_ok.fn

theorem ref08_merged_E1_lk41 : LoOk Tryd.prog (ITryd.at ref08_merged_E1.pin) ref08_merged_E1 (Tryd.f41.body.getD .skip) := loOk_all (ls := [loopAt Tryd.f41 0]) (by kernel_rfl) (fun l hl lp hs => by
  simp only [List.mem_cons, List.not_mem_nil, or_false] at hl
  rcases hl with rfl
  · rw [show ref08_merged_E1.lp (codeId (loopAt Tryd.f41 0)) = some ref08_merged_l0_lp by kernel_rfl] at hs
    simp only [Option.some.injEq] at hs; subst hs; exact ref08_merged_l0_lok)

/- 5 nodes -/
noncomputable def ref08_merged (a : List AV) (b : List AV) (o : List AV) : List AV := ((List.take ((Iter (ref08_merged_l0_step a b o) ((0 : Nat), (0 : Int), (0 : Int), [])).getD ((0 : Nat), [])).fst (List.drop (0 : Nat) ((Iter (ref08_merged_l0_step a b o) ((0 : Nat), (0 : Int), (0 : Int), [])).getD ((0 : Nat), [])).snd)))
noncomputable def ref08_merged_pre (a : List AV) (b : List AV) (o : List AV) : Bool := br ((Iter (ref08_merged_l0_step a b o) ((0 : Nat), (0 : Int), (0 : Int), [])).isSome) (br (decide ((0 : Nat) + ((Iter (ref08_merged_l0_step a b o) ((0 : Nat), (0 : Int), (0 : Int), [])).getD ((0 : Nat), [])).fst ≤ ((Iter (ref08_merged_l0_step a b o) ((0 : Nat), (0 : Int), (0 : Int), [])).getD ((0 : Nat), [])).snd.length) && true) (true) (false)) (false)
theorem ref08_merged_x (a : List AV) (b : List AV) (o : List AV) : Pre (ref08_merged_pre a b o) (XF Tryd.prog ref08_merged_E1 Tryd.f41 (Tryd.f41.body.getD .skip) [AV.list (1 : Nat) a, AV.list (1 : Nat) b, AV.list (2 : Nat) o]) (AV.list (1 : Nat) (ref08_merged a b o)) := by
  have h : XF Tryd.prog ref08_merged_E1 Tryd.f41 (Tryd.f41.body.getD .skip) [AV.list (1 : Nat) a, AV.list (1 : Nat) b, AV.list (2 : Nat) o] = br (Iter (ref08_merged_l0_step a b o) ((0 : Nat), (0 : Int), (0 : Int), [])).isSome (br (decide ((0 : Nat) + ((Iter (ref08_merged_l0_step a b o) ((0 : Nat), (0 : Int), (0 : Int), [])).getD ((0 : Nat), [])).fst ≤ ((Iter (ref08_merged_l0_step a b o) ((0 : Nat), (0 : Int), (0 : Int), [])).getD ((0 : Nat), [])).snd.length) && true) (some (AV.list (1 : Nat) (List.take ((Iter (ref08_merged_l0_step a b o) ((0 : Nat), (0 : Int), (0 : Int), [])).getD ((0 : Nat), [])).fst (List.drop (0 : Nat) ((Iter (ref08_merged_l0_step a b o) ((0 : Nat), (0 : Int), (0 : Int), [])).getD ((0 : Nat), [])).snd)))) none) none := by kernel_rfl
  rw [h]; unfold ref08_merged ref08_merged_pre; repeat' (first | exact Pre.none | exact Pre.tt rfl | exact Pre.some rfl | refine Pre.l ?_ | refine Pre.r ?_ | refine Pre.br (f := fun (p : List AV) => ((AV.list (1 : Nat) p) : AV)) ?_ ?_ | refine Pre.brt (f := fun (p : List AV) => ((AV.list (1 : Nat) p) : AV)) ?_ ?_)
noncomputable def ref08_merged_o : List AV → Option (Bool × AV)
  | [AV.list (1 : Nat) a, AV.list (1 : Nat) b, AV.list (2 : Nat) o] => some (ref08_merged_pre a b o, (AV.list (1 : Nat) (ref08_merged a b o)))
  | _ => none
theorem ref08_merged_c : OcOk Tryd.prog ITryd 41 (ref08_merged_o) := fun xs r h => by
  unfold ref08_merged_o at h; split at h
  · simp only [Option.some.injEq, Prod.mk.injEq] at h; obtain ⟨h1, rfl⟩ := h
    exact good_pin (p := ref08_merged_E1.pin) (good_XF mxTryd (inv0Ok Tryd.prog _) rfl ref08_merged_E1_ok Tryd.func41 rfl (by kernel_rfl) ref08_merged_E1_lk41 (Pre.get (ref08_merged_x _ _ _) h1))
  · simp at h


noncomputable def EL3_3 : Env := EL3_2.with 41 ref08_merged_o

theorem EL3_3_ok : OrcOk Tryd.prog ITryd EL3_3 := EL3_2_ok.with ref08_merged_c

/-- The environment of bitemporal/bitemporalref08.List: its loops so far. -/

noncomputable def ref08_List_E0 : Env := EL3_3.fn 27 0 (lsOf []) (lpsOf [])

theorem ref08_List_E0_ok : OrcOk Tryd.prog (ITryd.at 0) ref08_List_E0 := EL3_3_ok.fn

theorem ref08_List_E0_lk16_0 : LoOk Tryd.prog (ITryd.at ref08_List_E0.pin) ref08_List_E0 (loopAt Tryd.f16 0) := loOk_nil (by kernel_rfl)

/- 15 nodes -/
noncomputable def ref08_List_l0_step (a : List AV) (b : List AV) : (Int) → Option ((Int) ⊕ (Bool × (Bool) × (Unit))) := fun (i) => br (decide (i < (↑a.length : Int))) (br (decide ((0 : Int) ≤ i) && decide (i < (↑a.length : Int))) (br (decide (i.toNat < a.length) && hasSh1 (Sh.list (3 : Nat)) ((a.getD i.toNat AV.top).cells.getD (0 : Nat) AV.top)) (br (decide ((0 : Int) ≤ i) && decide (i < (↑b.length : Int))) (br (decide (i.toNat < b.length) && hasSh1 (Sh.list (3 : Nat)) ((b.getD i.toNat AV.top).cells.getD (0 : Nat) AV.top)) (br (ref08_Equal_pre ((a.getD i.toNat AV.top).cells.getD (0 : Nat) AV.top).toList ((b.getD i.toNat AV.top).cells.getD (0 : Nat) AV.top).toList) (br (!ref08_Equal ((a.getD i.toNat AV.top).cells.getD (0 : Nat) AV.top).toList ((b.getD i.toNat AV.top).cells.getD (0 : Nat) AV.top).toList) (some (.inr (true, (false), ()))) (some (.inl (IntKind.i64.wrap (i + (1 : Int)))))) (none)) (none)) (none)) (none)) (none)) (some (.inr (false, false, ())))
noncomputable def ref08_List_l0_L (a : List AV) (b : List AV) : (Int) → List AV × List Box := fun (i) => ([AV.list (1 : Nat) a, AV.list (1 : Nat) b, AV.int IntKind.i64 i], [])
noncomputable def ref08_List_l0_out (a : List AV) (b : List AV) : (Bool × (Bool) × (Unit)) → LR := fun p => (.node p.1 (.leaf (Exit.ret) [AV.bool p.2.1] []) (.leaf (Exit.exit (0 : Nat)) [AV.top] []))
theorem ref08_List_l0_r (a : List AV) (b : List AV) (i : Int) : Enc (encR (ref08_List_l0_L a b) (ref08_List_l0_out a b)) (ref08_List_l0_step a b (i)) (XR Tryd.prog ref08_List_E0 [0, 1, 5] [4] [] (loopAt Tryd.f16 0) [AV.list (1 : Nat) a, AV.list (1 : Nat) b, AV.int IntKind.i64 i] []) := by
  have h : XR Tryd.prog ref08_List_E0 [0, 1, 5] [4] [] (loopAt Tryd.f16 0) [AV.list (1 : Nat) a, AV.list (1 : Nat) b, AV.int IntKind.i64 i] [] = br (decide (i < (↑a.length : Int))) (br (decide ((0 : Int) ≤ i) && decide (i < (↑a.length : Int))) (br (decide (i.toNat < a.length) && hasSh1 (Sh.list (3 : Nat)) ((a.getD i.toNat AV.top).cells.getD (0 : Nat) AV.top)) (br (decide ((0 : Int) ≤ i) && decide (i < (↑b.length : Int))) (br (decide (i.toNat < b.length) && hasSh1 (Sh.list (3 : Nat)) ((b.getD i.toNat AV.top).cells.getD (0 : Nat) AV.top)) (br (ref08_Equal_pre ((a.getD i.toNat AV.top).cells.getD (0 : Nat) AV.top).toList ((b.getD i.toNat AV.top).cells.getD (0 : Nat) AV.top).toList) (br (!ref08_Equal ((a.getD i.toNat AV.top).cells.getD (0 : Nat) AV.top).toList ((b.getD i.toNat AV.top).cells.getD (0 : Nat) AV.top).toList) (some (Exit.ret, [AV.bool false], [])) (some (Exit.normal, [AV.list (1 : Nat) a, AV.list (1 : Nat) b, AV.int IntKind.i64 (IntKind.i64.wrap (i + (1 : Int)))], []))) none) none) none) none) none) (some (Exit.exit (0 : Nat), [AV.top], [])) := by kernel_rfl
  rw [h]; unfold ref08_List_l0_step; repeat' (first | exact Enc.none | exact Enc.some rfl | refine Enc.br ?_ ?_)
noncomputable def ref08_List_l0_lp : Lp := ⟨[0, 1, 5], [4], [], fun vals H => match vals, H with
  | [AV.list (1 : Nat) a, AV.list (1 : Nat) b, AV.int IntKind.i64 i], [] => some ((Iter (ref08_List_l0_step a b) (i)).isSome, ref08_List_l0_out a b ((Iter (ref08_List_l0_step a b) (i)).getD (false, false, ())))
  | _, _ => none⟩
theorem ref08_List_l0_lok : LoopOk Tryd.prog (ITryd.at ref08_List_E0.pin) ref08_List_E0.nt (loopAt Tryd.f16 0) ref08_List_l0_lp := fun vals H r h => by
  unfold ref08_List_l0_lp at h; dsimp only at h; split at h
  · simp only [Option.some.injEq, Prod.mk.injEq] at h; obtain ⟨h1, rfl⟩ := h
    obtain ⟨q, hq⟩ := Option.isSome_iff_exists.1 h1
    rw [hq]
    exact loop_of_XR mxTryd (inv0Ok Tryd.prog _) rfl ref08_List_E0_ok ref08_List_E0_lk16_0 (ref08_List_l0_L _ _) (ref08_List_l0_out _ _) (fun p => by simp only [ref08_List_l0_out, LR.eval]; first | (simp; done) | (repeat' split <;> simp)) (fun s => ref08_List_l0_r _ _ _) hq
  · simp at h


/-- The environment of bitemporal/bitemporalref08.List: its loops so far. -/

noncomputable def ref08_List_E1 : Env := EL3_3.fn 27 0 (lsOf []) (lpsOf [(4, ref08_List_l0_lp)])

theorem ref08_List_E1_ok : OrcOk Tryd.prog (ITryd.at 0) ref08_List_E1 := EL3_3_ok.fn

theorem ref08_List_E1_lk16 : LoOk Tryd.prog (ITryd.at ref08_List_E1.pin) ref08_List_E1 (Tryd.f16.body.getD .skip) := loOk_all (ls := [loopAt Tryd.f16 0]) (by kernel_rfl) (fun l hl lp hs => by
  simp only [List.mem_cons, List.not_mem_nil, or_false] at hl
  rcases hl with rfl
  · rw [show ref08_List_E1.lp (codeId (loopAt Tryd.f16 0)) = some ref08_List_l0_lp by kernel_rfl] at hs
    simp only [Option.some.injEq] at hs; subst hs; exact ref08_List_l0_lok)

/- 7 nodes -/
noncomputable def ref08_List (a : List AV) (b : List AV) : Bool := (br ((↑a.length : Int) != (↑b.length : Int)) ((false)) (br (((Iter (ref08_List_l0_step a b) (0 : Int)).getD (false, false, ())).fst) ((((Iter (ref08_List_l0_step a b) (0 : Int)).getD (false, false, ())).snd.fst)) ((true))))
noncomputable def ref08_List_pre (a : List AV) (b : List AV) : Bool := br ((↑a.length : Int) != (↑b.length : Int)) (true) (br ((Iter (ref08_List_l0_step a b) (0 : Int)).isSome) (true) (false))
theorem ref08_List_x (a : List AV) (b : List AV) : Pre (ref08_List_pre a b) (XF Tryd.prog ref08_List_E1 Tryd.f16 (Tryd.f16.body.getD .skip) [AV.list (1 : Nat) a, AV.list (1 : Nat) b]) (AV.bool (ref08_List a b)) := by
  have h : XF Tryd.prog ref08_List_E1 Tryd.f16 (Tryd.f16.body.getD .skip) [AV.list (1 : Nat) a, AV.list (1 : Nat) b] = br ((↑a.length : Int) != (↑b.length : Int)) (some (AV.bool false)) (br (Iter (ref08_List_l0_step a b) (0 : Int)).isSome (br ((Iter (ref08_List_l0_step a b) (0 : Int)).getD (false, false, ())).fst (some (AV.bool ((Iter (ref08_List_l0_step a b) (0 : Int)).getD (false, false, ())).snd.fst)) (some (AV.bool true))) none) := by kernel_rfl
  rw [h]; unfold ref08_List ref08_List_pre; repeat' (first | exact Pre.none | exact Pre.tt rfl | exact Pre.some rfl | refine Pre.l ?_ | refine Pre.r ?_ | refine Pre.br (f := fun (p : Bool) => ((AV.bool p) : AV)) ?_ ?_ | refine Pre.brt (f := fun (p : Bool) => ((AV.bool p) : AV)) ?_ ?_)
noncomputable def ref08_List_o : List AV → Option (Bool × AV)
  | [AV.list (1 : Nat) a, AV.list (1 : Nat) b] => some (ref08_List_pre a b, (AV.bool (ref08_List a b)))
  | _ => none
theorem ref08_List_c : OcOk Tryd.prog ITryd 16 (ref08_List_o) := fun xs r h => by
  unfold ref08_List_o at h; split at h
  · simp only [Option.some.injEq, Prod.mk.injEq] at h; obtain ⟨h1, rfl⟩ := h
    exact good_pin (p := ref08_List_E1.pin) (good_XF mxTryd (inv0Ok Tryd.prog _) rfl ref08_List_E1_ok Tryd.func16 rfl (by kernel_rfl) ref08_List_E1_lk16 (Pre.get (ref08_List_x _ _) h1))
  · simp at h


noncomputable def EL3_4 : Env := EL3_3.with 16 ref08_List_o

theorem EL3_4_ok : OrcOk Tryd.prog ITryd EL3_4 := EL3_3_ok.with ref08_List_c

/-- The environment of bitemporal/tuple.Order$1: its loops so far. -/

noncomputable def tuple_Order1_E0 : Env := EL3_4.fn 36 0 (lsOf []) (lpsOf [])

theorem tuple_Order1_E0_ok : OrcOk Tryd.prog (ITryd.at 0) tuple_Order1_E0 := EL3_4_ok.fn

theorem tuple_Order1_E0_lk38_0 : LoOk Tryd.prog (ITryd.at tuple_Order1_E0.pin) tuple_Order1_E0 (loopAt Tryd.f38 0) := loOk_nil (by kernel_rfl)

/- 17 nodes -/
noncomputable def tuple_Order1_l0_step (a : List AV) (b : List AV) (t9 : List AV) (t10 : Int) : (Int) → Option ((Int) ⊕ (Bool × (Int) × (Unit))) := fun (t11) => br (decide (t11 < t10)) (br (decide ((0 : Int) ≤ t11) && decide (t11 < (↑t9.length : Int))) (br (decide (t11.toNat < t9.length) && ((t9.getD t11.toNat AV.top).cells.length == (2 : Nat) && hasShs [Sh.int IntKind.i64, Sh.bool] (t9.getD t11.toNat AV.top).cells (0 : Nat))) (br (tuple_at_pre a ((t9.getD t11.toNat AV.top).cells.getD (0 : Nat) AV.top).toInt) (br (tuple_at_pre b ((t9.getD t11.toNat AV.top).cells.getD (0 : Nat) AV.top).toInt) (br (((t9.getD t11.toNat AV.top).cells.getD (1 : Nat) AV.top).toBool) (br (IntKind.i64.wrap ((0 : Int) - value_Compare (tuple_at a ((t9.getD t11.toNat AV.top).cells.getD (0 : Nat) AV.top).toInt).fst (tuple_at a ((t9.getD t11.toNat AV.top).cells.getD (0 : Nat) AV.top).toInt).snd.fst (tuple_at a ((t9.getD t11.toNat AV.top).cells.getD (0 : Nat) AV.top).toInt).snd.snd (tuple_at b ((t9.getD t11.toNat AV.top).cells.getD (0 : Nat) AV.top).toInt).fst (tuple_at b ((t9.getD t11.toNat AV.top).cells.getD (0 : Nat) AV.top).toInt).snd.fst (tuple_at b ((t9.getD t11.toNat AV.top).cells.getD (0 : Nat) AV.top).toInt).snd.snd) != (0 : Int)) (some (.inr (true, (IntKind.i64.wrap ((0 : Int) - value_Compare (tuple_at a ((t9.getD t11.toNat AV.top).cells.getD (0 : Nat) AV.top).toInt).fst (tuple_at a ((t9.getD t11.toNat AV.top).cells.getD (0 : Nat) AV.top).toInt).snd.fst (tuple_at a ((t9.getD t11.toNat AV.top).cells.getD (0 : Nat) AV.top).toInt).snd.snd (tuple_at b ((t9.getD t11.toNat AV.top).cells.getD (0 : Nat) AV.top).toInt).fst (tuple_at b ((t9.getD t11.toNat AV.top).cells.getD (0 : Nat) AV.top).toInt).snd.fst (tuple_at b ((t9.getD t11.toNat AV.top).cells.getD (0 : Nat) AV.top).toInt).snd.snd)), ()))) (some (.inl (IntKind.i64.wrap (t11 + (1 : Int)))))) (br (value_Compare (tuple_at a ((t9.getD t11.toNat AV.top).cells.getD (0 : Nat) AV.top).toInt).fst (tuple_at a ((t9.getD t11.toNat AV.top).cells.getD (0 : Nat) AV.top).toInt).snd.fst (tuple_at a ((t9.getD t11.toNat AV.top).cells.getD (0 : Nat) AV.top).toInt).snd.snd (tuple_at b ((t9.getD t11.toNat AV.top).cells.getD (0 : Nat) AV.top).toInt).fst (tuple_at b ((t9.getD t11.toNat AV.top).cells.getD (0 : Nat) AV.top).toInt).snd.fst (tuple_at b ((t9.getD t11.toNat AV.top).cells.getD (0 : Nat) AV.top).toInt).snd.snd != (0 : Int)) (some (.inr (true, (value_Compare (tuple_at a ((t9.getD t11.toNat AV.top).cells.getD (0 : Nat) AV.top).toInt).fst (tuple_at a ((t9.getD t11.toNat AV.top).cells.getD (0 : Nat) AV.top).toInt).snd.fst (tuple_at a ((t9.getD t11.toNat AV.top).cells.getD (0 : Nat) AV.top).toInt).snd.snd (tuple_at b ((t9.getD t11.toNat AV.top).cells.getD (0 : Nat) AV.top).toInt).fst (tuple_at b ((t9.getD t11.toNat AV.top).cells.getD (0 : Nat) AV.top).toInt).snd.fst (tuple_at b ((t9.getD t11.toNat AV.top).cells.getD (0 : Nat) AV.top).toInt).snd.snd), ()))) (some (.inl (IntKind.i64.wrap (t11 + (1 : Int))))))) (none)) (none)) (none)) (none)) (some (.inr (false, 0, ())))
noncomputable def tuple_Order1_l0_L (a : List AV) (b : List AV) (t9 : List AV) (t10 : Int) : (Int) → List AV × List Box := fun (t11) => ([AV.list (3 : Nat) a, AV.list (3 : Nat) b, AV.list (2 : Nat) t9, AV.int IntKind.i64 t10, AV.int IntKind.i64 t11], [])
noncomputable def tuple_Order1_l0_out (a : List AV) (b : List AV) (t9 : List AV) (t10 : Int) : (Bool × (Int) × (Unit)) → LR := fun p => (.node p.1 (.leaf (Exit.ret) [AV.list (3 : Nat) a, AV.list (3 : Nat) b, AV.int IntKind.i64 p.2.1] []) (.leaf (Exit.exit (0 : Nat)) [AV.list (3 : Nat) a, AV.list (3 : Nat) b, AV.top] []))
theorem tuple_Order1_l0_r (a : List AV) (b : List AV) (t9 : List AV) (t10 : Int) (t11 : Int) : Enc (encR (tuple_Order1_l0_L a b t9 t10) (tuple_Order1_l0_out a b t9 t10)) (tuple_Order1_l0_step a b t9 t10 (t11)) (XR Tryd.prog tuple_Order1_E0 [0, 1, 9, 10, 11] [0, 1, 5] [] (loopAt Tryd.f38 0) [AV.list (3 : Nat) a, AV.list (3 : Nat) b, AV.list (2 : Nat) t9, AV.int IntKind.i64 t10, AV.int IntKind.i64 t11] []) := by
  have h : XR Tryd.prog tuple_Order1_E0 [0, 1, 9, 10, 11] [0, 1, 5] [] (loopAt Tryd.f38 0) [AV.list (3 : Nat) a, AV.list (3 : Nat) b, AV.list (2 : Nat) t9, AV.int IntKind.i64 t10, AV.int IntKind.i64 t11] [] = br (decide (t11 < t10)) (br (decide ((0 : Int) ≤ t11) && decide (t11 < (↑t9.length : Int))) (br (decide (t11.toNat < t9.length) && ((t9.getD t11.toNat AV.top).cells.length == (2 : Nat) && hasShs [Sh.int IntKind.i64, Sh.bool] (t9.getD t11.toNat AV.top).cells (0 : Nat))) (br (tuple_at_pre a ((t9.getD t11.toNat AV.top).cells.getD (0 : Nat) AV.top).toInt) (br (tuple_at_pre b ((t9.getD t11.toNat AV.top).cells.getD (0 : Nat) AV.top).toInt) (br ((t9.getD t11.toNat AV.top).cells.getD (1 : Nat) AV.top).toBool (br (IntKind.i64.wrap ((0 : Int) - value_Compare (tuple_at a ((t9.getD t11.toNat AV.top).cells.getD (0 : Nat) AV.top).toInt).fst (tuple_at a ((t9.getD t11.toNat AV.top).cells.getD (0 : Nat) AV.top).toInt).snd.fst (tuple_at a ((t9.getD t11.toNat AV.top).cells.getD (0 : Nat) AV.top).toInt).snd.snd (tuple_at b ((t9.getD t11.toNat AV.top).cells.getD (0 : Nat) AV.top).toInt).fst (tuple_at b ((t9.getD t11.toNat AV.top).cells.getD (0 : Nat) AV.top).toInt).snd.fst (tuple_at b ((t9.getD t11.toNat AV.top).cells.getD (0 : Nat) AV.top).toInt).snd.snd) != (0 : Int)) (some (Exit.ret, [AV.list (3 : Nat) a, AV.list (3 : Nat) b, AV.int IntKind.i64 (IntKind.i64.wrap ((0 : Int) - value_Compare (tuple_at a ((t9.getD t11.toNat AV.top).cells.getD (0 : Nat) AV.top).toInt).fst (tuple_at a ((t9.getD t11.toNat AV.top).cells.getD (0 : Nat) AV.top).toInt).snd.fst (tuple_at a ((t9.getD t11.toNat AV.top).cells.getD (0 : Nat) AV.top).toInt).snd.snd (tuple_at b ((t9.getD t11.toNat AV.top).cells.getD (0 : Nat) AV.top).toInt).fst (tuple_at b ((t9.getD t11.toNat AV.top).cells.getD (0 : Nat) AV.top).toInt).snd.fst (tuple_at b ((t9.getD t11.toNat AV.top).cells.getD (0 : Nat) AV.top).toInt).snd.snd))], [])) (some (Exit.normal, [AV.list (3 : Nat) a, AV.list (3 : Nat) b, AV.list (2 : Nat) t9, AV.int IntKind.i64 t10, AV.int IntKind.i64 (IntKind.i64.wrap (t11 + (1 : Int)))], []))) (br (value_Compare (tuple_at a ((t9.getD t11.toNat AV.top).cells.getD (0 : Nat) AV.top).toInt).fst (tuple_at a ((t9.getD t11.toNat AV.top).cells.getD (0 : Nat) AV.top).toInt).snd.fst (tuple_at a ((t9.getD t11.toNat AV.top).cells.getD (0 : Nat) AV.top).toInt).snd.snd (tuple_at b ((t9.getD t11.toNat AV.top).cells.getD (0 : Nat) AV.top).toInt).fst (tuple_at b ((t9.getD t11.toNat AV.top).cells.getD (0 : Nat) AV.top).toInt).snd.fst (tuple_at b ((t9.getD t11.toNat AV.top).cells.getD (0 : Nat) AV.top).toInt).snd.snd != (0 : Int)) (some (Exit.ret, [AV.list (3 : Nat) a, AV.list (3 : Nat) b, AV.int IntKind.i64 (value_Compare (tuple_at a ((t9.getD t11.toNat AV.top).cells.getD (0 : Nat) AV.top).toInt).fst (tuple_at a ((t9.getD t11.toNat AV.top).cells.getD (0 : Nat) AV.top).toInt).snd.fst (tuple_at a ((t9.getD t11.toNat AV.top).cells.getD (0 : Nat) AV.top).toInt).snd.snd (tuple_at b ((t9.getD t11.toNat AV.top).cells.getD (0 : Nat) AV.top).toInt).fst (tuple_at b ((t9.getD t11.toNat AV.top).cells.getD (0 : Nat) AV.top).toInt).snd.fst (tuple_at b ((t9.getD t11.toNat AV.top).cells.getD (0 : Nat) AV.top).toInt).snd.snd)], [])) (some (Exit.normal, [AV.list (3 : Nat) a, AV.list (3 : Nat) b, AV.list (2 : Nat) t9, AV.int IntKind.i64 t10, AV.int IntKind.i64 (IntKind.i64.wrap (t11 + (1 : Int)))], [])))) none) none) none) none) (some (Exit.exit (0 : Nat), [AV.list (3 : Nat) a, AV.list (3 : Nat) b, AV.top], [])) := by kernel_rfl
  rw [h]; unfold tuple_Order1_l0_step; repeat' (first | exact Enc.none | exact Enc.some rfl | refine Enc.br ?_ ?_)
noncomputable def tuple_Order1_l0_lp : Lp := ⟨[0, 1, 9, 10, 11], [0, 1, 5], [], fun vals H => match vals, H with
  | [AV.list (3 : Nat) a, AV.list (3 : Nat) b, AV.list (2 : Nat) t9, AV.int IntKind.i64 t10, AV.int IntKind.i64 t11], [] => some ((Iter (tuple_Order1_l0_step a b t9 t10) (t11)).isSome, tuple_Order1_l0_out a b t9 t10 ((Iter (tuple_Order1_l0_step a b t9 t10) (t11)).getD (false, 0, ())))
  | _, _ => none⟩
theorem tuple_Order1_l0_lok : LoopOk Tryd.prog (ITryd.at tuple_Order1_E0.pin) tuple_Order1_E0.nt (loopAt Tryd.f38 0) tuple_Order1_l0_lp := fun vals H r h => by
  unfold tuple_Order1_l0_lp at h; dsimp only at h; split at h
  · simp only [Option.some.injEq, Prod.mk.injEq] at h; obtain ⟨h1, rfl⟩ := h
    obtain ⟨q, hq⟩ := Option.isSome_iff_exists.1 h1
    rw [hq]
    exact loop_of_XR mxTryd (inv0Ok Tryd.prog _) rfl tuple_Order1_E0_ok tuple_Order1_E0_lk38_0 (tuple_Order1_l0_L _ _ _ _) (tuple_Order1_l0_out _ _ _ _) (fun p => by simp only [tuple_Order1_l0_out, LR.eval]; first | (simp; done) | (repeat' split <;> simp)) (fun s => tuple_Order1_l0_r _ _ _ _ _) hq
  · simp at h


/-- The environment of bitemporal/tuple.Order$1: its loops so far. -/

noncomputable def tuple_Order1_E1 : Env := EL3_4.fn 36 0 (lsOf []) (lpsOf [(2, tuple_Order1_l0_lp)])

theorem tuple_Order1_E1_ok : OrcOk Tryd.prog (ITryd.at 0) tuple_Order1_E1 := EL3_4_ok.fn

theorem tuple_Order1_E1_lk38 : LoOk Tryd.prog (ITryd.at tuple_Order1_E1.pin) tuple_Order1_E1 (Tryd.f38.body.getD .skip) := loOk_all (ls := [loopAt Tryd.f38 0]) (by kernel_rfl) (fun l hl lp hs => by
  simp only [List.mem_cons, List.not_mem_nil, or_false] at hl
  rcases hl with rfl
  · rw [show tuple_Order1_E1.lp (codeId (loopAt Tryd.f38 0)) = some tuple_Order1_l0_lp by kernel_rfl] at hs
    simp only [Option.some.injEq] at hs; subst hs; exact tuple_Order1_l0_lok)

/- 7 nodes -/
noncomputable def tuple_Order1 (a : List AV) (b : List AV) (o : List AV) : Int := (br (((Iter (tuple_Order1_l0_step a b o (↑o.length : Int)) (0 : Int)).getD (false, (0 : Int), ())).fst) ((((Iter (tuple_Order1_l0_step a b o (↑o.length : Int)) (0 : Int)).getD (false, (0 : Int), ())).snd.fst)) ((cmp_Compare (tuple_Compare a b) (0 : Int))))
noncomputable def tuple_Order1_pre (a : List AV) (b : List AV) (o : List AV) : Bool := br ((Iter (tuple_Order1_l0_step a b o (↑o.length : Int)) (0 : Int)).isSome) (br (((Iter (tuple_Order1_l0_step a b o (↑o.length : Int)) (0 : Int)).getD (false, (0 : Int), ())).fst) (true) (br (tuple_Compare_pre a b) (true) (false))) (false)
theorem tuple_Order1_x (a : List AV) (b : List AV) (o : List AV) : Pre (tuple_Order1_pre a b o) (XF Tryd.prog tuple_Order1_E1 Tryd.f38 (Tryd.f38.body.getD .skip) [AV.list (3 : Nat) a, AV.list (3 : Nat) b, AV.eptr (1 : Nat) [AV.list (2 : Nat) o] (0 : Nat) (0 : Nat)]) (AV.int IntKind.i64 (tuple_Order1 a b o)) := by
  have h : XF Tryd.prog tuple_Order1_E1 Tryd.f38 (Tryd.f38.body.getD .skip) [AV.list (3 : Nat) a, AV.list (3 : Nat) b, AV.eptr (1 : Nat) [AV.list (2 : Nat) o] (0 : Nat) (0 : Nat)] = br (Iter (tuple_Order1_l0_step a b o (↑o.length : Int)) (0 : Int)).isSome (br ((Iter (tuple_Order1_l0_step a b o (↑o.length : Int)) (0 : Int)).getD (false, (0 : Int), ())).fst (some (AV.int IntKind.i64 ((Iter (tuple_Order1_l0_step a b o (↑o.length : Int)) (0 : Int)).getD (false, (0 : Int), ())).snd.fst)) (br (tuple_Compare_pre a b) (some (AV.int IntKind.i64 (cmp_Compare (tuple_Compare a b) (0 : Int)))) none)) none := by kernel_rfl
  rw [h]; unfold tuple_Order1 tuple_Order1_pre; repeat' (first | exact Pre.none | exact Pre.tt rfl | exact Pre.some rfl | refine Pre.l ?_ | refine Pre.r ?_ | refine Pre.br (f := fun (p : Int) => ((AV.int IntKind.i64 p) : AV)) ?_ ?_ | refine Pre.brt (f := fun (p : Int) => ((AV.int IntKind.i64 p) : AV)) ?_ ?_)
noncomputable def tuple_Order1_o : List AV → Option (Bool × AV)
  | [AV.list (3 : Nat) a, AV.list (3 : Nat) b, AV.eptr (1 : Nat) [AV.list (2 : Nat) o] (0 : Nat) (0 : Nat)] => some (tuple_Order1_pre a b o, (AV.int IntKind.i64 (tuple_Order1 a b o)))
  | _ => none
theorem tuple_Order1_c : OcOk Tryd.prog ITryd 38 (tuple_Order1_o) := fun xs r h => by
  unfold tuple_Order1_o at h; split at h
  · simp only [Option.some.injEq, Prod.mk.injEq] at h; obtain ⟨h1, rfl⟩ := h
    exact good_pin (p := tuple_Order1_E1.pin) (good_XF mxTryd (inv0Ok Tryd.prog _) rfl tuple_Order1_E1_ok Tryd.func38 rfl (by kernel_rfl) tuple_Order1_E1_lk38 (Pre.get (tuple_Order1_x _ _ _) h1))
  · simp at h


noncomputable def EL3_5 : Env := EL3_4.with 38 tuple_Order1_o

theorem EL3_5_ok : OrcOk Tryd.prog ITryd EL3_5 := EL3_4_ok.with tuple_Order1_c

noncomputable abbrev EL3 : Env := EL3_5

theorem EL3_ok : OrcOk Tryd.prog ITryd EL3 := EL3_5_ok

end Go.Sim.M
