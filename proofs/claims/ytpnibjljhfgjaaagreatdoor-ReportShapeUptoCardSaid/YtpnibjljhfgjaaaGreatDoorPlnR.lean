/- Results as tables: what report.Result writes. -/
import Derived.Test.YtpnibjljhfgjaaaGreatDoorPlnS
set_option linter.unusedVariables false
set_option linter.unusedSectionVars false
set_option linter.unusedSimpArgs false
set_option maxRecDepth 100000
namespace Go.Sim.M
open Go.RowKit Go.Lib

def wValid : Sx := [118, 97, 108, 105, 100]
def timedF (x : Fct) : Bool := !(x.f == (0 : Int) && (x.t == (0 : Int) && true))
noncomputable def rowF (tm : Bool) (N : Nat) (x : Fct) : List Sx := vals x.row N ++ (if tm then [pTxt x.f x.t] else [])
noncomputable def headF (tm : Bool) (cs : List Col) : List Sx := namesOf cs ++ (if tm then [wValid] else [])
theorem rowF_len (tm : Bool) (N : Nat) (x : Fct) : (rowF tm N x).length = N + (if tm then 1 else 0) := by
  unfold rowF; rw [List.length_append, vals_len]; cases tm <;> rfl
theorem headF_len (tm : Bool) (cs : List Col) : (headF tm cs).length = cs.length + (if tm then 1 else 0) := by
  unfold headF; rw [List.length_append, namesOf_len]; cases tm <;> rfl
theorem encS_app (a b : List Sx) : encS (a ++ b) = encS a ++ encS b := by simp [encS]
theorem encT_snoc (l : List (List Sx)) (n : Nat) (h : n < l.length) : encT (l.take n) ++ [AV.list 1 (encS l[n])] = encT (l.take (n + 1)) := by
  rw [List.take_succ_eq_append_getElem h]; unfold encT; rw [List.map_append]; rfl
theorem encT_snoc' (head : List Sx) (l : List (List Sx)) (n : Nat) (h : n < l.length) : encT (head :: l.take n) ++ [AV.list 1 (encS l[n])] = encT (head :: l.take (n + 1)) := by
  show AV.list 1 (encS head) :: (encT (l.take n) ++ _) = _
  rw [encT_snoc _ _ h]; rfl

theorem idx_loop (fs : List Fct) (hn : fs.length ≤ 1073741824) : ∀ (k n : Nat), n + k = fs.length → ∃ b i, Iter (slices_IndexFunc_l0_step (fs.map encF) ((fs.length : Nat) : Int)) ((n : Nat) : Int) = some (b, i, ()) ∧ b = (fs.drop n).any timedF ∧ 0 ≤ i
  | 0, n, hk => by
    obtain rfl : n = fs.length := by omega
    refine ⟨false, 0, iter_end ?_, by rw [List.drop_length]; rfl, Int.le_refl _⟩
    simp [slices_IndexFunc_l0_step, slices_IndexFunc_l0_t, br_if]
  | k + 1, n, hk => by
    have h1 : n < fs.length := by omega
    have gf : (fs.map encF).getD n .top = encF fs[n] := getD_map _ _ _ h1
    have sh : ((encF fs[n]).cells.length == (3 : Nat) && hasShs [Sh.list (3 : Nat), Sh.int IntKind.i64, Sh.int IntKind.i64] (encF fs[n]).cells (0 : Nat)) = true := rfl
    have rr : report_Result1 ((encF fs[n]).cells.getD 0 .top).toList ((encF fs[n]).cells.getD 1 .top).toInt ((encF fs[n]).cells.getD 2 .top).toInt = timedF fs[n] := rfl
    have d1 : ((n : Nat) : Int) < ((fs.length : Nat) : Int) := by omega
    have d2 : (0 : Int) ≤ ((n : Nat) : Int) := by omega
    have st : slices_IndexFunc_l0_step (fs.map encF) ((fs.length : Nat) : Int) ((n : Nat) : Int) = if timedF fs[n] then some (.inr (true, ((n : Nat) : Int), ())) else some (.inl ((n + 1 : Nat) : Int)) := by
      unfold slices_IndexFunc_l0_step slices_IndexFunc_l0_t
      rw [Int.toNat_natCast, gf, sh, rr, List.length_map, decide_eq_true d1, decide_eq_true d2, decide_eq_true h1, wrap_nat (show n + 1 ≤ maxLen by unfold maxLen; omega)]
      cases timedF fs[n] <;> rfl
    rw [drop_cons h1, List.any_cons]
    cases ht : timedF fs[n] with
    | true =>
      rw [ht] at st
      exact ⟨true, n, iter_end st, by simp, d2⟩
    | false =>
      rw [ht] at st
      obtain ⟨b, i, e1, e2, e3⟩ := idx_loop fs hn k (n + 1) (by omega)
      exact ⟨b, i, by rw [iter_step st]; exact e1, by simp [e2], e3⟩

theorem contains_ok (fs : List Fct) (hn : fs.length ≤ 1073741824) : slices_ContainsFunc (fs.map encF) = some (fs.any timedF) := by
  obtain ⟨b, i, e1, e2, e3⟩ := idx_loop fs hn fs.length 0 (by omega)
  have e1' : Iter (slices_IndexFunc_l0_step (fs.map encF) (((fs.map encF).length : Nat) : Int)) (0 : Int) = some (b, i, ()) := by rw [List.length_map]; exact e1
  have e : slices_IndexFunc (fs.map encF) = some (if b then i else -1) := by
    unfold slices_IndexFunc slices_IndexFunc_t
    rw [e1']
    cases b <;> rfl
  unfold slices_ContainsFunc slices_ContainsFunc_t
  rw [e]
  rw [List.drop_zero] at e2
  rw [← e2]
  cases b with
  | true =>
    show some (decide (i ≥ 0)) = _
    rw [decide_eq_true e3]
  | false => rfl

section
variable (cs : List Col) (fs : List Fct) (rn rtm : Int) (hcs : cs.length ≤ 1048576) (hfs : fs.length ≤ 1073741000) (hfw : ∀ x, x ∈ fs → x.wf)
include hcs hfs hfw

set_option maxHeartbeats 2000000 in
theorem res_loop (tm : Bool) (head : List Sx) : ∀ (k n : Nat), n + k = fs.length →
    Iter (report_Result_l0_step tm (fs.map encF) ((fs.length : Nat) : Int)) (n + 1, ((n : Nat) : Int), cs.map encC, fs.map encF, rn, rtm, encT (head :: (fs.map (rowF tm cs.length)).take n)) = some (fs.length + 1, cs.map encC, fs.map encF, rn, rtm, encT (head :: fs.map (rowF tm cs.length)))
  | 0, n, hk => by
    obtain rfl : n = fs.length := by omega
    rw [List.take_of_length_le (by simp)]
    refine iter_end ?_
    unfold report_Result_l0_step
    simp only
    unfold report_Result_l0_t
    rw [decide_eq_false (by omega : ¬ ((fs.length : Nat) : Int) < ((fs.length : Nat) : Int))]
    rfl
  | k + 1, n, hk => by
    have h1 : n < fs.length := by omega
    have d1 : ((n : Nat) : Int) < ((fs.length : Nat) : Int) := by omega
    have d2 : (0 : Int) ≤ ((n : Nat) : Int) := by omega
    have d3 : (n + 1 + 1) * 24 ≤ 140737488355328 := by omega
    have d4 : n + 1 + 1 ≤ 4611686018427387904 := by omega
    have d5 : (n + 1 == n + 1) = true := by simp
    have d6 : (cs.length == cs.length) = true := by simp
    have d7 : (cs.length + 1) * 16 ≤ 140737488355328 := by omega
    have d8 : cs.length + 1 ≤ 4611686018427387904 := by omega
    have d9 : 0 + (cs.length + 1) ≤ (vals fs[n].row cs.length ++ [pTxt fs[n].f fs[n].t]).length := by rw [List.length_append, vals_len]; simp
    have d10 : 0 + cs.length ≤ (vals fs[n].row cs.length).length := by rw [vals_len]; omega
    have d11 : 0 + cs.length ≤ cs.length := by omega
    have d12 : n + 1 ≤ maxLen := by unfold maxLen; omega
    have hx := hfw fs[n] (List.getElem_mem h1)
    have gf : (fs.map encF).getD n .top = encF fs[n] := getD_map _ _ _ h1
    have sh : ((encF fs[n]).cells.length == (3 : Nat) && hasShs [Sh.list (3 : Nat), Sh.int IntKind.i64, Sh.int IntKind.i64] (encF fs[n]).cells (0 : Nat)) = true := rfl
    have c0 : ((encF fs[n]).cells.getD 0 .top).toList = fs[n].row.map encV := rfl
    have c1 : ((encF fs[n]).cells.getD 1 .top).toInt = fs[n].f := rfl
    have c2 : ((encF fs[n]).cells.getD 2 .top).toInt = fs[n].t := rfl
    have ev := valuesM_ok fs[n].row hx.1 cs.length (by omega)
    have ep := ptext_ok fs[n].f fs[n].t
    have e1 : report_Result_l0_v1 (fs.map encF) ((n : Nat) : Int) (cs.map encC) = cs.length := by
      unfold report_Result_l0_v1; rw [Int.toNat_natCast, gf, c0, List.length_map, ev]; rfl
    have e3 : report_Result_l0_v3 (fs.map encF) ((n : Nat) : Int) (cs.map encC) = encS (vals fs[n].row cs.length) := by
      unfold report_Result_l0_v3; rw [Int.toNat_natCast, gf, c0, List.length_map, ev]; rfl
    have e0 : report_Result_l0_v0 (fs.map encF) ((n : Nat) : Int) (cs.map encC) = cs.length + 1 := by
      unfold report_Result_l0_v0; rw [e1]
    have e2 : report_Result_l0_v2 (fs.map encF) ((n : Nat) : Int) (cs.map encC) = encS (vals fs[n].row cs.length ++ [pTxt fs[n].f fs[n].t]) := by
      unfold report_Result_l0_v2; rw [e3, Int.toNat_natCast, gf, c1, c2, ep, encS_app]; rfl
    have hrow : (fs.map (rowF tm cs.length))[n]'(by simpa using h1) = rowF tm cs.length fs[n] := by simp
    have esn := encT_snoc' head (fs.map (rowF tm cs.length)) n (by simpa using h1)
    rw [hrow] at esn
    have ll : (encT (head :: (fs.map (rowF tm cs.length)).take n)).length = n + 1 := by
      rw [encT_len, List.length_cons, List.length_take, List.length_map]; omega
    have st : report_Result_l0_step tm (fs.map encF) ((fs.length : Nat) : Int) (n + 1, ((n : Nat) : Int), cs.map encC, fs.map encF, rn, rtm, encT (head :: (fs.map (rowF tm cs.length)).take n)) = some (.inl (n + 1 + 1, ((n + 1 : Nat) : Int), cs.map encC, fs.map encF, rn, rtm, encT (head :: (fs.map (rowF tm cs.length)).take (n + 1)))) := by
      unfold report_Result_l0_step
      simp only
      unfold report_Result_l0_t
      rw [e1, e3, e0, e2, Int.toNat_natCast, gf, sh, c0, c1, c2, ep, List.length_map, List.length_map, ev, ll, encS_len, encS_len, decide_eq_true d1, decide_eq_true d2, decide_eq_true h1, decide_eq_true d3, decide_eq_true d4, d5, vals_len, d6, decide_eq_true d7, decide_eq_true d8, wrap_nat d12]
      rw [take_encS _ (cs.length + 1) (by rw [List.length_append, vals_len]; rfl), take_encS _ cs.length (by rw [vals_len])]
      rw [decide_eq_true d9]
      cases tm with
      | true =>
        have er : rowF true cs.length fs[n] = vals fs[n].row cs.length ++ [pTxt fs[n].f fs[n].t] := rfl
        rw [er] at esn
        rw [esn]; rfl
      | false =>
        have er : rowF false cs.length fs[n] = vals fs[n].row cs.length := by simp [rowF]
        rw [er] at esn
        rw [esn, decide_eq_true d11]; rfl
    rw [iter_step st, res_loop tm head k (n + 1) (by omega)]
end
end Go.Sim.M
