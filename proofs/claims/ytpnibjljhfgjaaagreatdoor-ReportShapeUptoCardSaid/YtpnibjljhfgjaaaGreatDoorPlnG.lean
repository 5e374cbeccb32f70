/- Versions as tables: what report.Versions writes. -/
import Derived.Test.YtpnibjljhfgjaaaGreatDoorPlnK
set_option linter.unusedVariables false
set_option linter.unusedSectionVars false
set_option linter.unusedSimpArgs false
set_option maxRecDepth 100000
namespace Go.Sim.M
open Go.RowKit Go.Lib

section
variable (cs : List Col) (vs : List Ver) (hcs : cs.length ≤ 1048576) (hvs : vs.length ≤ 1073741000) (hvw : ∀ x, x ∈ vs → x.wf)
include hcs hvs hvw

set_option maxHeartbeats 2000000 in
theorem ver_loop (head : List Sx) : ∀ (k n : Nat), n + k = vs.length →
    Iter (report_Versions_l0_step (cs.map encC) (vs.map encW) ((vs.length : Nat) : Int)) (n + 1, ((n : Nat) : Int), encT (head :: (vs.map (rowV cs.length)).take n)) = some (vs.length + 1, encT (head :: vs.map (rowV cs.length)))
  | 0, n, hk => by
    obtain rfl : n = vs.length := by omega
    rw [List.take_of_length_le (by simp)]
    refine iter_end ?_
    unfold report_Versions_l0_step
    simp only
    unfold report_Versions_l0_t
    rw [decide_eq_false (by omega : ¬ ((vs.length : Nat) : Int) < ((vs.length : Nat) : Int))]
    rfl
  | k + 1, n, hk => by
    have h1 : n < vs.length := by omega
    have d1 : ((n : Nat) : Int) < ((vs.length : Nat) : Int) := by omega
    have d2 : (0 : Int) ≤ ((n : Nat) : Int) := by omega
    have d3 : (n + 1 + 1) * 24 ≤ 140737488355328 := by omega
    have d4 : n + 1 + 1 ≤ 4611686018427387904 := by omega
    have d5 : (n + 1 == n + 1) = true := by simp
    have d12 : n + 1 ≤ maxLen := by unfold maxLen; omega
    obtain ⟨w1, w2, w3, w4, w5, w6, w7, w8⟩ := hvw vs[n] (List.getElem_mem h1)
    have gf : (vs.map encW).getD n .top = encW vs[n] := getD_map _ _ _ h1
    have sh : ((encW vs[n]).cells.length == (9 : Nat) && hasShs [Sh.int IntKind.i64, Sh.int IntKind.i64, Sh.list (3 : Nat), Sh.int IntKind.i64, Sh.int IntKind.i64, Sh.int IntKind.i64, Sh.int IntKind.i64, Sh.int IntKind.i64, Sh.int IntKind.i64] (encW vs[n]).cells (0 : Nat)) = true := rfl
    have c0 : ((encW vs[n]).cells.getD 0 .top).toInt = vs[n].id := rfl
    have c2 : ((encW vs[n]).cells.getD 2 .top).toList = vs[n].row.map encV := rfl
    have c3 : ((encW vs[n]).cells.getD 3 .top).toInt = vs[n].f := rfl
    have c4 : ((encW vs[n]).cells.getD 4 .top).toInt = vs[n].t := rfl
    have c5 : ((encW vs[n]).cells.getD 5 .top).toInt = vs[n].sf := rfl
    have c6 : ((encW vs[n]).cells.getD 6 .top).toInt = vs[n].st := rfl
    have c7 : ((encW vs[n]).cells.getD 7 .top).toInt = vs[n].by' := rfl
    have c8 : ((encW vs[n]).cells.getD 8 .top).toInt = vs[n].un := rfl
    have ev := values_ok vs[n].row w2 cs.length (by omega)
    have hrow : (vs.map (rowV cs.length))[n]'(by simpa using h1) = rowV cs.length vs[n] := by simp
    have esn := encT_snoc' head (vs.map (rowV cs.length)) n (by simpa using h1)
    rw [hrow] at esn
    have ll : (encT (head :: (vs.map (rowV cs.length)).take n)).length = n + 1 := by
      rw [encT_len, List.length_cons, List.length_take, List.length_map]; omega
    have hcat : ∀ u : Sx, slices_Concat [AV.str (itoa vs[n].id)] (encS (vals vs[n].row cs.length)) [AV.str (pTxt vs[n].f vs[n].t), AV.str (pTxt vs[n].sf vs[n].st), AV.str (itoa vs[n].by'), AV.str u] = some (encS ([itoa vs[n].id] ++ vals vs[n].row cs.length ++ [pTxt vs[n].f vs[n].t, pTxt vs[n].sf vs[n].st, itoa vs[n].by', u])) := fun u =>
      concat_ok [itoa vs[n].id] (vals vs[n].row cs.length) [pTxt vs[n].f vs[n].t, pTxt vs[n].sf vs[n].st, itoa vs[n].by', u] (by simp) (by rw [vals_len]; omega) (by simp)
    have e0 : report_Versions_l0_v0 (cs.map encC) (vs.map encW) ((vs.length : Nat) : Int) (n + 1) ((n : Nat) : Int) (encT (head :: (vs.map (rowV cs.length)).take n)) = true := by
      unfold report_Versions_l0_v0; rw [Int.toNat_natCast, gf, c7]; exact i64_bnd w7
    have e1 : report_Versions_l0_v1 (cs.map encC) (vs.map encW) ((vs.length : Nat) : Int) (n + 1) ((n : Nat) : Int) (encT (head :: (vs.map (rowV cs.length)).take n)) = true := by
      unfold report_Versions_l0_v1; rw [Int.toNat_natCast, gf, c0]; exact i64_bnd w1
    have e2 : report_Versions_l0_v2 (cs.map encC) (vs.map encW) ((n : Nat) : Int) = some (encS ([itoa vs[n].id] ++ vals vs[n].row cs.length ++ [pTxt vs[n].f vs[n].t, pTxt vs[n].sf vs[n].st, itoa vs[n].by', itoa vs[n].un])) := by
      unfold report_Versions_l0_v2; rw [Int.toNat_natCast, gf, c0, c2, c3, c4, c5, c6, c7, c8, List.length_map, ev, ptext_ok, ptext_ok]; exact hcat _
    have e3 : report_Versions_l0_v3 (cs.map encC) (vs.map encW) ((n : Nat) : Int) = some (encS ([itoa vs[n].id] ++ vals vs[n].row cs.length ++ [pTxt vs[n].f vs[n].t, pTxt vs[n].sf vs[n].st, itoa vs[n].by', [45]])) := by
      unfold report_Versions_l0_v3; rw [Int.toNat_natCast, gf, c0, c2, c3, c4, c5, c6, c7, List.length_map, ev, ptext_ok, ptext_ok]; exact hcat _
    have st : report_Versions_l0_step (cs.map encC) (vs.map encW) ((vs.length : Nat) : Int) (n + 1, ((n : Nat) : Int), encT (head :: (vs.map (rowV cs.length)).take n)) = some (.inl (n + 1 + 1, ((n + 1 : Nat) : Int), encT (head :: (vs.map (rowV cs.length)).take (n + 1)))) := by
      unfold report_Versions_l0_step
      simp only
      unfold report_Versions_l0_t
      rw [e0, e1, e2, e3, Int.toNat_natCast, gf, sh, c2, c3, c4, c5, c6, c8, List.length_map, List.length_map, ev, ptext_ok, ptext_ok, ll, i64_bnd w8, decide_eq_true d1, decide_eq_true d2, decide_eq_true h1, decide_eq_true d3, decide_eq_true d4, d5, wrap_nat d12]
      by_cases hu : vs[n].un = 0
      · have b : (vs[n].un != 0) = false := by simp [hu]
        have er : rowV cs.length vs[n] = [itoa vs[n].id] ++ vals vs[n].row cs.length ++ [pTxt vs[n].f vs[n].t, pTxt vs[n].sf vs[n].st, itoa vs[n].by', [45]] := by simp [rowV, hu]
        rw [er] at esn
        simp only [Option.getD_some]
        rw [b, esn]; rfl
      · have b : (vs[n].un != 0) = true := by simp [hu]
        have er : rowV cs.length vs[n] = [itoa vs[n].id] ++ vals vs[n].row cs.length ++ [pTxt vs[n].f vs[n].t, pTxt vs[n].sf vs[n].st, itoa vs[n].by', itoa vs[n].un] := by simp [rowV, hu]
        rw [er] at esn
        simp only [Option.getD_some]
        rw [b, esn]; rfl
    rw [iter_step st, ver_loop head k (n + 1) (by omega)]

theorem versions_ok (T : Sx) (hT : T = tabTxt (headV cs) (vs.map (rowV cs.length)) (widthsOf (headV cs :: vs.map (rowV cs.length)) (headV cs).length)) (hTl : T.length ≤ 70368744177664) :
    report_Versions (cs.map encC) (vs.map encW) = some T := by
  have hlen := headV_len cs
  have d1 : 0 + (vs.length + 1) ≤ vs.length + 1 := by omega
  have d2 : 0 + cs.length ≤ cs.length := by omega
  have hn := rnames_ok cs (by omega)
  have hloop := ver_loop cs vs hcs hvs hvw (headV cs) vs.length 0 (by omega)
  rw [List.take_zero] at hloop
  have htab : report_table (encT (headV cs :: vs.map (rowV cs.length))) = some T := by
    rw [hT]
    rw [hT] at hTl
    refine table_ok _ _ _ (by omega) (by omega) rfl (fun r hr => ?_) (by rw [List.length_map]; omega) hTl
    obtain ⟨x, _, rfl⟩ := List.mem_map.1 hr
    rw [rowV_len, headV_len]
  have e5 : report_Versions_v5 (cs.map encC) = some (encS (headV cs)) := by
    unfold report_Versions_v5
    rw [hn]
    simp only [Option.getD_some]
    rw [take_encS _ _ (namesOf_len cs).symm]
    exact concat_ok [[105, 100]] (namesOf cs) [wValid, [115, 121, 115, 116, 101, 109], [98, 121], [117, 110, 116, 105, 108]] (by simp) (by rw [namesOf_len]; omega) (by simp)
  have e4 : report_Versions_v4 (cs.map encC) (vs.map encW) = some (vs.length + 1, encT (headV cs :: vs.map (rowV cs.length))) := by
    unfold report_Versions_v4; rw [e5, List.length_map]; exact hloop
  have e3 : report_Versions_v3 (cs.map encC) (vs.map encW) = (vs.length + 1, encT (headV cs :: vs.map (rowV cs.length))) := by unfold report_Versions_v3; rw [e4]; rfl
  have e1 : report_Versions_v1 (cs.map encC) (vs.map encW) = vs.length + 1 := by unfold report_Versions_v1; rw [e3]
  have e2 : report_Versions_v2 (cs.map encC) (vs.map encW) = encT (headV cs :: vs.map (rowV cs.length)) := by unfold report_Versions_v2; rw [e3]
  have e0 : report_Versions_v0 (cs.map encC) (vs.map encW) = some T := by
    unfold report_Versions_v0; rw [e1, e2, take_encT _ _ (by simp)]; exact htab
  unfold report_Versions report_Versions_t
  rw [hn, e5, e4, e1, e2, e0, encT_len, List.length_cons, List.length_map, decide_eq_true d1]
  simp only [Option.getD_some, Option.isSome_some, br_tt, encS_len, namesOf_len]
  rw [decide_eq_true d2]
  rfl
end
end Go.Sim.M
