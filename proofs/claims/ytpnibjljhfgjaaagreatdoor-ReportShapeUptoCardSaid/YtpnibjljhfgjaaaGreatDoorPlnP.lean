/- Results as tables: what the reference writes. -/
import Derived.Test.YtpnibjljhfgjaaaGreatDoorPlnQ
set_option linter.unusedVariables false
set_option linter.unusedSectionVars false
set_option linter.unusedSimpArgs false
set_option maxRecDepth 100000
namespace Go.Sim.M
open Go.RowKit Go.Lib

section
variable (cs : List Col) (fs : List Fct) (rn rtm : Int) (hcs : cs.length ≤ 1048576) (hfs : fs.length ≤ 1073741000) (hfw : ∀ x, x ∈ fs → x.wf)
include hcs hfs hfw

theorem rtimed_loop (rc : List AV) : ∀ (k n : Nat) (tm : Bool), n + k = fs.length → Iter ref55_Result_l0_step (tm, ((n : Nat) : Int), rc, fs.map encF, rn, rtm) = some (tm || (fs.drop n).any timedF, rc, fs.map encF, rn, rtm)
  | 0, n, tm, hk => by
    obtain rfl : n = fs.length := by omega
    rw [List.drop_length, List.any_nil, Bool.or_false]
    refine iter_end ?_
    unfold ref55_Result_l0_step
    simp only
    unfold ref55_Result_l0_t
    rw [List.length_map, decide_eq_false (by omega : ¬ ((fs.length : Nat) : Int) < ((fs.length : Nat) : Int))]
    rfl
  | k + 1, n, tm, hk => by
    have h1 : n < fs.length := by omega
    have gf : (fs.map encF).getD n .top = encF fs[n] := getD_map _ _ _ h1
    have sh : ((encF fs[n]).cells.length == (3 : Nat) && hasShs [Sh.int IntKind.i64, Sh.int IntKind.i64] (encF fs[n]).cells (1 : Nat)) = true := rfl
    have rr : (!(((encF fs[n]).cells.getD (1 : Nat) AV.top).toInt == (0 : Int) && (((encF fs[n]).cells.getD (2 : Nat) AV.top).toInt == (0 : Int) && true))) = timedF fs[n] := rfl
    have d1 : ((n : Nat) : Int) < ((fs.length : Nat) : Int) := by omega
    have d2 : (0 : Int) ≤ ((n : Nat) : Int) := by omega
    have st : ref55_Result_l0_step (tm, ((n : Nat) : Int), rc, fs.map encF, rn, rtm) = some (.inl (tm || timedF fs[n], ((n + 1 : Nat) : Int), rc, fs.map encF, rn, rtm)) := by
      unfold ref55_Result_l0_step
      simp only
      unfold ref55_Result_l0_t
      rw [Int.toNat_natCast, gf, sh, rr, List.length_map, decide_eq_true d1, decide_eq_true d2, decide_eq_true h1, wrap_nat (show n + 1 ≤ maxLen by unfold maxLen; omega)]
      cases tm <;> rfl
    rw [iter_step st, rtimed_loop rc k (n + 1) _ (by omega), drop_cons h1, List.any_cons, Bool.or_assoc]

set_option maxHeartbeats 2000000 in
theorem rres_loop (tm : Bool) (hn : Nat) (hx : List AV) : ∀ (k n : Nat), n + k = fs.length →
    Iter (ref55_Result_l1_step tm hn) (n, ((n : Nat) : Int), cs.map encC, fs.map encF, rn, rtm, hx, encT ((fs.map (rowF tm cs.length)).take n)) = some (fs.length, hx, encT (fs.map (rowF tm cs.length)))
  | 0, n, hk => by
    obtain rfl : n = fs.length := by omega
    rw [List.take_of_length_le (by simp)]
    refine iter_end ?_
    unfold ref55_Result_l1_step
    simp only
    unfold ref55_Result_l1_t
    rw [List.length_map, decide_eq_false (by omega : ¬ ((fs.length : Nat) : Int) < ((fs.length : Nat) : Int))]
    rfl
  | k + 1, n, hk => by
    have h1 : n < fs.length := by omega
    have d1 : ((n : Nat) : Int) < ((fs.length : Nat) : Int) := by omega
    have d2 : (0 : Int) ≤ ((n : Nat) : Int) := by omega
    have d3 : (n + 1) * 24 ≤ 140737488355328 := by omega
    have d4 : n + 1 ≤ 4611686018427387904 := by omega
    have d5 : (n == n) = true := by simp
    have d6 : (cs.length == cs.length) = true := by simp
    have d7 : (cs.length + 1) * 16 ≤ 140737488355328 := by omega
    have d8 : cs.length + 1 ≤ 4611686018427387904 := by omega
    have d9 : 0 + (cs.length + 1) ≤ (vals fs[n].row cs.length ++ [pTxt fs[n].f fs[n].t]).length := by rw [List.length_append, vals_len]; simp
    have d11 : 0 + cs.length ≤ cs.length := by omega
    have d12 : n + 1 ≤ maxLen := by unfold maxLen; omega
    have hx' := hfw fs[n] (List.getElem_mem h1)
    have gf : (fs.map encF).getD n .top = encF fs[n] := getD_map _ _ _ h1
    have sh : hasSh1 (Sh.list (3 : Nat)) ((encF fs[n]).cells.getD 0 .top) = true := rfl
    have sh2 : ((encF fs[n]).cells.length == (3 : Nat) && hasShs [Sh.int IntKind.i64, Sh.int IntKind.i64] (encF fs[n]).cells (1 : Nat)) = true := rfl
    have c0 : ((encF fs[n]).cells.getD 0 .top).toList = fs[n].row.map encV := rfl
    have c1 : ((encF fs[n]).cells.getD 1 .top).toInt = fs[n].f := rfl
    have c2 : ((encF fs[n]).cells.getD 2 .top).toInt = fs[n].t := rfl
    have ev := cells_ok fs[n].row hx'.1 cs.length (by omega)
    have ep := rptext_ok fs[n].f fs[n].t
    have hrow : (fs.map (rowF tm cs.length))[n]'(by simpa using h1) = rowF tm cs.length fs[n] := by simp
    have esn := encT_snoc (fs.map (rowF tm cs.length)) n (by simpa using h1)
    rw [hrow] at esn
    have ll : (encT ((fs.map (rowF tm cs.length)).take n)).length = n := by
      rw [encT_len, List.length_take, List.length_map]; omega
    have e1 : ref55_Result_l1_v1 ((n : Nat) : Int) (cs.map encC) (fs.map encF) = cs.length := by
      unfold ref55_Result_l1_v1; rw [Int.toNat_natCast, gf, c0, List.length_map, ev]; rfl
    have e3 : ref55_Result_l1_v3 ((n : Nat) : Int) (cs.map encC) (fs.map encF) = encS (vals fs[n].row cs.length) := by
      unfold ref55_Result_l1_v3; rw [Int.toNat_natCast, gf, c0, List.length_map, ev]; rfl
    have e0 : ref55_Result_l1_v0 ((n : Nat) : Int) (cs.map encC) (fs.map encF) = cs.length + 1 := by
      unfold ref55_Result_l1_v0; rw [e1]
    have e2 : ref55_Result_l1_v2 ((n : Nat) : Int) (cs.map encC) (fs.map encF) = encS (vals fs[n].row cs.length ++ [pTxt fs[n].f fs[n].t]) := by
      unfold ref55_Result_l1_v2; rw [e3, Int.toNat_natCast, gf, c1, c2, ep, encS_app]; rfl
    have st : ref55_Result_l1_step tm hn (n, ((n : Nat) : Int), cs.map encC, fs.map encF, rn, rtm, hx, encT ((fs.map (rowF tm cs.length)).take n)) = some (.inl (n + 1, ((n + 1 : Nat) : Int), cs.map encC, fs.map encF, rn, rtm, hx, encT ((fs.map (rowF tm cs.length)).take (n + 1)))) := by
      unfold ref55_Result_l1_step
      simp only
      unfold ref55_Result_l1_t
      rw [e1, e3, e0, e2, Int.toNat_natCast, gf, sh, sh2, c0, c1, c2, ep, List.length_map, List.length_map, ev, ll, encS_len, encS_len, decide_eq_true d1, decide_eq_true d2, decide_eq_true h1, decide_eq_true d3, decide_eq_true d4, d5, vals_len, d6, decide_eq_true d7, decide_eq_true d8, wrap_nat d12]
      rw [take_encS _ (cs.length + 1) (by rw [List.length_append, vals_len]; rfl), take_encS _ cs.length (by rw [vals_len])]
      rw [decide_eq_true d9]
      cases tm with
      | true =>
        have er : rowF true cs.length fs[n] = vals fs[n].row cs.length ++ [pTxt fs[n].f fs[n].t] := rfl
        rw [er] at esn
        rw [esn]; rfl
      | false =>
        have er : rowF false cs.length fs[n] = vals fs[n].row cs.length := by simp [rowF]
        rw [er] at esn
        rw [esn, decide_eq_true d11]; rfl
    rw [iter_step st, rres_loop tm hn hx k (n + 1) (by omega)]
end
end Go.Sim.M
