/- Versions as tables: the reference, the law. -/
import Derived.Test.YtpnibjljhfgjaaaGreatDoorPlnG
set_option linter.unusedVariables false
set_option linter.unusedSectionVars false
set_option linter.unusedSimpArgs false
set_option maxRecDepth 100000
namespace Go.Sim.M
open Go.RowKit Go.Lib

def TameV (x : Ver) : Prop := (-1152921504606846976 ≤ x.id ∧ x.id ≤ 1152921504606846976) ∧ (-1152921504606846976 ≤ x.by' ∧ x.by' ≤ 1152921504606846976) ∧ (-1152921504606846976 ≤ x.un ∧ x.un ≤ 1152921504606846976)

section
variable (cs : List Col) (vs : List Ver) (hcs : cs.length ≤ 1048576) (hvs : vs.length ≤ 1073741000) (hvw : ∀ x, x ∈ vs → x.wf) (hvt : ∀ x, x ∈ vs → TameV x)
include hcs hvs hvw hvt

set_option maxHeartbeats 2000000 in
theorem rver_loop (hn : Nat) (hx : List AV) : ∀ (k n : Nat), n + k = vs.length →
    Iter (ref55_Versions_l0_step (cs.map encC) (vs.map encW) hn) (n, ((n : Nat) : Int), hx, encT ((vs.map (rowV cs.length)).take n)) = some (vs.length, hx, encT (vs.map (rowV cs.length)))
  | 0, n, hk => by
    obtain rfl : n = vs.length := by omega
    rw [List.take_of_length_le (by simp)]
    refine iter_end ?_
    unfold ref55_Versions_l0_step
    simp only
    unfold ref55_Versions_l0_t
    rw [List.length_map, decide_eq_false (by omega : ¬ ((vs.length : Nat) : Int) < ((vs.length : Nat) : Int))]
    rfl
  | k + 1, n, hk => by
    have h1 : n < vs.length := by omega
    have d1 : ((n : Nat) : Int) < ((vs.length : Nat) : Int) := by omega
    have d2 : (0 : Int) ≤ ((n : Nat) : Int) := by omega
    have d3 : (n + 1) * 24 ≤ 140737488355328 := by omega
    have d4 : n + 1 ≤ 4611686018427387904 := by omega
    have d5 : (n == n) = true := by simp
    have d6 : (1 + cs.length) * 16 ≤ 140737488355328 := by omega
    have d7 : 1 + cs.length ≤ 4611686018427387904 := by omega
    have d8 : (1 + cs.length + 4) * 16 ≤ 140737488355328 := by omega
    have d9 : 1 + cs.length + 4 ≤ 4611686018427387904 := by omega
    have d10 : 0 + cs.length ≤ cs.length := by omega
    have d12 : n + 1 ≤ maxLen := by unfold maxLen; omega
    obtain ⟨w1, w2, w3, w4, w5, w6, w7, w8⟩ := hvw vs[n] (List.getElem_mem h1)
    obtain ⟨t1, t2, t3⟩ := hvt vs[n] (List.getElem_mem h1)
    have n1 := number07_eq vs[n].id (by omega) (by omega)
    have n2 := number07_eq vs[n].by' (by omega) (by omega)
    have n3 := number07_eq vs[n].un (by omega) (by omega)
    have gf : (vs.map encW).getD n .top = encW vs[n] := getD_map _ _ _ h1
    have ev := cells_ok vs[n].row w2 cs.length (by omega)
    have c0 : ((encW vs[n]).cells.getD 0 .top).toInt = vs[n].id := rfl
    have c2 : ((encW vs[n]).cells.getD 2 .top).toList = vs[n].row.map encV := rfl
    have c3 : ((encW vs[n]).cells.getD 3 .top).toInt = vs[n].f := rfl
    have c4 : ((encW vs[n]).cells.getD 4 .top).toInt = vs[n].t := rfl
    have c5 : ((encW vs[n]).cells.getD 5 .top).toInt = vs[n].sf := rfl
    have c6 : ((encW vs[n]).cells.getD 6 .top).toInt = vs[n].st := rfl
    have c7 : ((encW vs[n]).cells.getD 7 .top).toInt = vs[n].by' := rfl
    have c8 : ((encW vs[n]).cells.getD 8 .top).toInt = vs[n].un := rfl
    have s0 : hasSh1 (Sh.int IntKind.i64) ((encW vs[n]).cells.getD 0 .top) = true := rfl
    have s2 : hasSh1 (Sh.list 3) ((encW vs[n]).cells.getD 2 .top) = true := rfl
    have s7 : hasSh1 (Sh.int IntKind.i64) ((encW vs[n]).cells.getD 7 .top) = true := rfl
    have s8 : hasSh1 (Sh.int IntKind.i64) ((encW vs[n]).cells.getD 8 .top) = true := rfl
    have s3 : ((encW vs[n]).cells.length == (9 : Nat) && hasShs [Sh.int IntKind.i64, Sh.int IntKind.i64] (encW vs[n]).cells (3 : Nat)) = true := rfl
    have s5 : ((encW vs[n]).cells.length == (9 : Nat) && hasShs [Sh.int IntKind.i64, Sh.int IntKind.i64] (encW vs[n]).cells (5 : Nat)) = true := rfl
    have hrow : (vs.map (rowV cs.length))[n]'(by simpa using h1) = rowV cs.length vs[n] := by simp
    have esn := encT_snoc (vs.map (rowV cs.length)) n (by simpa using h1)
    rw [hrow] at esn
    have ll : (encT ((vs.map (rowV cs.length)).take n)).length = n := by
      rw [encT_len, List.length_take, List.length_map]; omega
    have v6 : ref55_Versions_l0_v6 (cs.map encC) (vs.map encW) ((n : Nat) : Int) = encS (vals vs[n].row cs.length) := by
      unfold ref55_Versions_l0_v6; rw [Int.toNat_natCast, gf, c2, List.length_map, ev]
      exact take_encS _ _ (vals_len _ _).symm
    have v1 : ref55_Versions_l0_v1 (cs.map encC) (vs.map encW) ((n : Nat) : Int) = 1 + cs.length := by
      unfold ref55_Versions_l0_v1; rw [v6, encS_len, vals_len]
    have v0 : ref55_Versions_l0_v0 (cs.map encC) (vs.map encW) ((n : Nat) : Int) = 1 + cs.length + 4 := by
      unfold ref55_Versions_l0_v0; rw [v1]
    have v5 : ref55_Versions_l0_v5 (cs.map encC) (vs.map encW) ((n : Nat) : Int) = encS ([itoa vs[n].id] ++ vals vs[n].row cs.length) := by
      unfold ref55_Versions_l0_v5; rw [v6, Int.toNat_natCast, gf, c0, n1]; rfl
    have v3 : ref55_Versions_l0_v3 (cs.map encC) (vs.map encW) ((n : Nat) : Int) = encS ([itoa vs[n].id] ++ vals vs[n].row cs.length ++ [pTxt vs[n].f vs[n].t, pTxt vs[n].sf vs[n].st, itoa vs[n].by', itoa vs[n].un]) := by
      unfold ref55_Versions_l0_v3; rw [v5, Int.toNat_natCast, gf, c3, c4, c5, c6, c7, c8, rptext_ok, rptext_ok, n2, n3]; simp only [Option.getD_some, encS_app]; rfl
    have v4 : ref55_Versions_l0_v4 (cs.map encC) (vs.map encW) ((n : Nat) : Int) = encS ([itoa vs[n].id] ++ vals vs[n].row cs.length ++ [pTxt vs[n].f vs[n].t, pTxt vs[n].sf vs[n].st, itoa vs[n].by', [45]]) := by
      unfold ref55_Versions_l0_v4; rw [v5, Int.toNat_natCast, gf, c3, c4, c5, c6, c7, rptext_ok, rptext_ok, n2]; simp only [Option.getD_some, encS_app]; rfl
    have v2 : ref55_Versions_l0_v2 (vs.map encW) ((n : Nat) : Int) = true := by
      unfold ref55_Versions_l0_v2; rw [List.length_map, decide_eq_true d1, decide_eq_true d2]; rfl
    have v9 : ref55_Versions_l0_v9 (vs.map encW) ((n : Nat) : Int) = true := by
      unfold ref55_Versions_l0_v9; rw [List.length_map, Int.toNat_natCast, decide_eq_true h1]
    have v7 : ref55_Versions_l0_v7 (vs.map encW) ((n : Nat) : Int) = true := by
      unfold ref55_Versions_l0_v7; rw [v9, Int.toNat_natCast, gf, s5]; rfl
    have v8 : ref55_Versions_l0_v8 (vs.map encW) ((n : Nat) : Int) = true := by
      unfold ref55_Versions_l0_v8; rw [v9, Int.toNat_natCast, gf, s3]; rfl
    have st : ref55_Versions_l0_step (cs.map encC) (vs.map encW) hn (n, ((n : Nat) : Int), hx, encT ((vs.map (rowV cs.length)).take n)) = some (.inl (n + 1, ((n + 1 : Nat) : Int), hx, encT ((vs.map (rowV cs.length)).take (n + 1)))) := by
      have g1 : (1 + cs.length == (encS ([itoa vs[n].id] ++ vals vs[n].row cs.length)).length) = true := by
        rw [encS_len, List.length_append, vals_len]; simp
      have g2 : ∀ u : Sx, 0 + (1 + cs.length + 4) ≤ (encS ([itoa vs[n].id] ++ vals vs[n].row cs.length ++ [pTxt vs[n].f vs[n].t, pTxt vs[n].sf vs[n].st, itoa vs[n].by', u])).length := fun u => by
        rw [encS_len]; simp [vals_len]; omega
      have g3 : ∀ u : Sx, List.take (1 + cs.length + 4) (List.drop 0 (encS ([itoa vs[n].id] ++ vals vs[n].row cs.length ++ [pTxt vs[n].f vs[n].t, pTxt vs[n].sf vs[n].st, itoa vs[n].by', u]))) = encS ([itoa vs[n].id] ++ vals vs[n].row cs.length ++ [pTxt vs[n].f vs[n].t, pTxt vs[n].sf vs[n].st, itoa vs[n].by', u]) := fun u =>
        take_encS _ _ (by simp [vals_len]; omega)
      unfold ref55_Versions_l0_step
      simp only
      unfold ref55_Versions_l0_t
      rw [v0, v1, v2, v3, v4, v5, v7, v8, v9, Int.toNat_natCast, gf, s0, s2, s7, s8, c0, c2, c3, c4, c5, c6, c7, c8, List.length_map, List.length_map, ev, n1, n2, n3, rptext_ok, rptext_ok, ll, g1, g3, g3, decide_eq_true d1, decide_eq_true d3, decide_eq_true d4, d5, decide_eq_true d6, decide_eq_true d7, decide_eq_true d8, decide_eq_true d9, decide_eq_true (g2 _), decide_eq_true (g2 _), wrap_nat d12]
      simp only [Option.getD_some, Option.isSome_some, encS_len, vals_len]
      rw [decide_eq_true d10]
      by_cases hu : vs[n].un = 0
      · have b : (vs[n].un != 0) = false := by simp [hu]
        have er : rowV cs.length vs[n] = [itoa vs[n].id] ++ vals vs[n].row cs.length ++ [pTxt vs[n].f vs[n].t, pTxt vs[n].sf vs[n].st, itoa vs[n].by', [45]] := by simp [rowV, hu]
        rw [er] at esn
        rw [b, esn]; rfl
      · have b : (vs[n].un != 0) = true := by simp [hu]
        have er : rowV cs.length vs[n] = [itoa vs[n].id] ++ vals vs[n].row cs.length ++ [pTxt vs[n].f vs[n].t, pTxt vs[n].sf vs[n].st, itoa vs[n].by', itoa vs[n].un] := by simp [rowV, hu]
        rw [er] at esn
        rw [b, esn]; rfl
    rw [iter_step st, rver_loop hn hx k (n + 1) (by omega)]
end
end Go.Sim.M
