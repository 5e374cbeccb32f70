/- Results as tables: report.Result as a whole. -/
import Derived.Test.YtpnibjljhfgjaaaGreatDoorPlnR
set_option linter.unusedVariables false
set_option linter.unusedSectionVars false
set_option linter.unusedSimpArgs false
set_option maxRecDepth 100000
namespace Go.Sim.M
open Go.RowKit Go.Lib

theorem brF {α : Type} (a b : α) : br false a b = b := rfl
def wRow : Sx := [114, 111, 119]
def wRows : Sx := [114, 111, 119, 115]
def resTxt (n : Nat) (T : Sx) : Sx := T ++ (itoa (n : Int) ++ [32] ++ (if n = 1 then wRow else wRows) ++ [10])

theorem take_encT (l : List (List Sx)) (n : Nat) (h : n = l.length) : List.take n (List.drop 0 (encT l)) = encT l := by
  rw [List.drop_zero, List.take_of_length_le (by simp [encT_len, h])]

theorem word_line (n : Nat) (hn : n ≤ 1073741824) (w : Sx) (hw : w.length ≤ 10) : report_line [32] [AV.str (itoa (n : Int)), AV.str w] = some (itoa (n : Int) ++ [32] ++ w ++ [10]) := by
  have hl := itoa_len (n : Int) (by omega) (by omega)
  have e : join [itoa (n : Int), w] [32] = itoa (n : Int) ++ [32] ++ w := by rw [join_cons]; simp [joinTail]
  have h := line_any [32] [itoa (n : Int), w] (by simp) (by rw [e]; simp; omega)
  rw [e] at h
  exact h

section
variable (cs : List Col) (fs : List Fct) (rn rtm : Int) (hc1 : 1 ≤ cs.length) (hcs : cs.length ≤ 1048576) (hfs : fs.length ≤ 1073741000) (hfw : ∀ x, x ∈ fs → x.wf)
  (tm : Bool) (htm : fs.any timedF = tm) (T : Sx) (hT : T = tabTxt (headF tm cs) (fs.map (rowF tm cs.length)) (widthsOf (headF tm cs :: fs.map (rowF tm cs.length)) (headF tm cs).length)) (hTl : T.length ≤ 70368744177664)
include hc1 hcs hfs hfw htm hT hTl

theorem res_table : report_table (encT (headF tm cs :: fs.map (rowF tm cs.length))) = some T := by
  rw [hT]
  rw [hT] at hTl
  have hl := headF_len tm cs
  refine table_ok _ _ _ (by omega) (by rw [hl]; split <;> omega) rfl (fun r hr => ?_) (by rw [List.length_map]; omega) hTl
  obtain ⟨x, _, rfl⟩ := List.mem_map.1 hr
  rw [rowF_len, headF_len]

end

section
variable (cs : List Col) (fs : List Fct) (rn rtm : Int) (hc1 : 1 ≤ cs.length) (hcs : cs.length ≤ 1048576) (hfs : fs.length ≤ 1073741000) (hfw : ∀ x, x ∈ fs → x.wf)
include hc1 hcs hfs hfw

set_option maxHeartbeats 1000000 in
theorem result_true (htm : fs.any timedF = true) (T : Sx) (hT : T = tabTxt (headF true cs) (fs.map (rowF true cs.length)) (widthsOf (headF true cs :: fs.map (rowF true cs.length)) (headF true cs).length)) (hTl : T.length ≤ 70368744177664) :
    report_Result (cs.map encC) (fs.map encF) rn rtm = some (resTxt fs.length T) := by
  have hl := itoa_len ((fs.length : Nat) : Int) (by omega) (by omega)
  have d1 : (cs.length == cs.length) = true := by simp
  have d2 : (cs.length + 1) * 16 ≤ 140737488355328 := by omega
  have d3 : cs.length + 1 ≤ 4611686018427387904 := by omega
  have d4 : 0 + (cs.length + 1) ≤ cs.length + 1 := by omega
  have d5 : 0 + (fs.length + 1) ≤ fs.length + 1 := by omega
  have d6 : ((fs.length : Nat) : Int) ≤ 9223372036854775807 := by omega
  have d7 : ∀ w : Sx, w.length ≤ 10 → T.length + (itoa ((fs.length : Nat) : Int) ++ [32] ++ w ++ [10]).length ≤ 4611686018427387904 := fun w hw => by
    simp only [List.length_append, List.length_cons, List.length_nil]; omega
  have d8 : ¬ ((cs.length : Nat) : Int) = 0 := by omega
  have d9 : fs.length ≤ 1073741824 := by omega
  have hlen : (headF true cs).length = cs.length + 1 := headF_len true cs
  have hc := contains_ok fs d9
  rw [htm] at hc
  have hn := rnames_ok cs (by omega)
  have hloop := res_loop cs fs rn rtm hcs hfs hfw true (headF true cs) fs.length 0 (by omega)
  rw [List.take_zero] at hloop
  have htab := res_table cs fs hc1 hcs hfs hfw true htm T hT hTl
  have e31 : report_Result_v31 (cs.map encC) = cs.length := by unfold report_Result_v31; rw [hn]; rfl
  have e28 : report_Result_v28 (cs.map encC) = encS (headF true cs) := by
    unfold report_Result_v28; rw [hn]; unfold headF; rw [encS_app]; rfl
  have e27 : report_Result_v27 (cs.map encC) = cs.length + 1 := by unfold report_Result_v27; rw [e31]
  have e22 : report_Result_v22 (cs.map encC) (fs.map encF) rn rtm = some (fs.length + 1, cs.map encC, fs.map encF, rn, rtm, encT (headF true cs :: fs.map (rowF true cs.length))) := by
    unfold report_Result_v22
    rw [hc, e27, e28, List.length_map, take_encS _ _ hlen.symm]
    exact hloop
  have e17 : report_Result_v17 (cs.map encC) (fs.map encF) rn rtm = (fs.length + 1, cs.map encC, fs.map encF, rn, rtm, encT (headF true cs :: fs.map (rowF true cs.length))) := by
    unfold report_Result_v17; rw [e22]; rfl
  have e16 : report_Result_v16 (cs.map encC) (fs.map encF) rn rtm = fs.length + 1 := by unfold report_Result_v16; rw [e17]
  have e8 : report_Result_v8 (cs.map encC) (fs.map encF) rn rtm = ((fs.length : Nat) : Int) := by unfold report_Result_v8 report_Result_v15; rw [e17]; rw [List.length_map]
  have e14 : report_Result_v14 (cs.map encC) (fs.map encF) rn rtm = encT (headF true cs :: fs.map (rowF true cs.length)) := by unfold report_Result_v14 report_Result_v15; rw [e17]
  have e10 : report_Result_v10 (cs.map encC) (fs.map encF) rn rtm = some T := by
    unfold report_Result_v10; rw [e16, e14, take_encT _ _ (by simp)]; exact htab
  have e5 : report_Result_v5 (cs.map encC) (fs.map encF) rn rtm = T := by unfold report_Result_v5; rw [e10]; rfl
  have e9 : report_Result_v9 (cs.map encC) (fs.map encF) rn rtm = true := by unfold report_Result_v9; rw [e10]; rfl
  have e0 : report_Result_v0 (cs.map encC) (fs.map encF) rn rtm = true := by
    unfold report_Result_v0; rw [e16, e14, encT_len, List.length_cons, List.length_map, decide_eq_true d5]; rfl
  have e1 : report_Result_v1 (cs.map encC) (fs.map encF) rn rtm = true := by unfold report_Result_v1; rw [e8]; exact decide_eq_true d6
  have e33 : report_Result_v33 (cs.map encC) (fs.map encF) rn rtm = some (itoa ((fs.length : Nat) : Int) ++ [32] ++ wRows ++ [10]) := by
    unfold report_Result_v33; rw [e8]; exact word_line _ d9 wRows (by decide)
  have e37 : report_Result_v37 (cs.map encC) (fs.map encF) rn rtm = some (itoa ((fs.length : Nat) : Int) ++ [32] ++ wRow ++ [10]) := by
    unfold report_Result_v37; rw [e8]; exact word_line _ d9 wRow (by decide)
  have e30 : report_Result_v30 (cs.map encC) (fs.map encF) rn rtm = itoa ((fs.length : Nat) : Int) ++ [32] ++ wRows ++ [10] := by unfold report_Result_v30; rw [e33]; rfl
  have e34 : report_Result_v34 (cs.map encC) (fs.map encF) rn rtm = itoa ((fs.length : Nat) : Int) ++ [32] ++ wRow ++ [10] := by unfold report_Result_v34; rw [e37]; rfl
  have b0 : (((cs.length : Nat) : Int) == 0) = false := by simpa using d8
  unfold report_Result report_Result_t
  rw [hc, hn, e31, e28, e27, e22, e8, e0, e9, e1, e37, e33, e5, e34, e30, List.length_map, b0]
  simp only [Option.getD_some, Option.isSome_some, br_tt, brF, encS_len, namesOf_len, hlen]
  rw [d1, decide_eq_true d2, decide_eq_true d3, decide_eq_true d4, decide_eq_true (d7 wRow (by decide)), decide_eq_true (d7 wRows (by decide))]
  unfold resTxt
  by_cases h1 : fs.length = 1
  · have b1 : (((fs.length : Nat) : Int) == 1) = true := by rw [h1]; rfl
    rw [b1, if_pos h1]; rfl
  · have b1 : (((fs.length : Nat) : Int) == 1) = false := by simpa using (by omega : ¬ ((fs.length : Nat) : Int) = 1)
    rw [b1, if_neg h1]; rfl

set_option maxHeartbeats 1000000 in
theorem result_false (htm : fs.any timedF = false) (T : Sx) (hT : T = tabTxt (headF false cs) (fs.map (rowF false cs.length)) (widthsOf (headF false cs :: fs.map (rowF false cs.length)) (headF false cs).length)) (hTl : T.length ≤ 70368744177664) :
    report_Result (cs.map encC) (fs.map encF) rn rtm = some (resTxt fs.length T) := by
  have hl := itoa_len ((fs.length : Nat) : Int) (by omega) (by omega)
  have d4 : 0 + cs.length ≤ cs.length := by omega
  have d5 : 0 + (fs.length + 1) ≤ fs.length + 1 := by omega
  have d6 : ((fs.length : Nat) : Int) ≤ 9223372036854775807 := by omega
  have d7 : ∀ w : Sx, w.length ≤ 10 → T.length + (itoa ((fs.length : Nat) : Int) ++ [32] ++ w ++ [10]).length ≤ 4611686018427387904 := fun w hw => by
    simp only [List.length_append, List.length_cons, List.length_nil]; omega
  have d8 : ¬ ((cs.length : Nat) : Int) = 0 := by omega
  have d9 : fs.length ≤ 1073741824 := by omega
  have hhd : headF false cs = namesOf cs := by simp [headF]
  have hlen : (headF false cs).length = cs.length := headF_len false cs
  have hc := contains_ok fs d9
  rw [htm] at hc
  have hn := rnames_ok cs (by omega)
  have hloop := res_loop cs fs rn rtm hcs hfs hfw false (headF false cs) fs.length 0 (by omega)
  rw [List.take_zero] at hloop
  have htab := res_table cs fs hc1 hcs hfs hfw false htm T hT hTl
  have e31 : report_Result_v31 (cs.map encC) = cs.length := by unfold report_Result_v31; rw [hn]; rfl
  have e23 : report_Result_v23 (cs.map encC) (fs.map encF) rn rtm = some (fs.length + 1, cs.map encC, fs.map encF, rn, rtm, encT (headF false cs :: fs.map (rowF false cs.length))) := by
    unfold report_Result_v23
    rw [hc, e31, hn, List.length_map]
    simp only [Option.getD_some]
    rw [← hhd, take_encS _ _ hlen.symm]
    exact hloop
  have e21 : report_Result_v21 (cs.map encC) (fs.map encF) rn rtm = (fs.length + 1, cs.map encC, fs.map encF, rn, rtm, encT (headF false cs :: fs.map (rowF false cs.length))) := by
    unfold report_Result_v21; rw [e23]; rfl
  have e20 : report_Result_v20 (cs.map encC) (fs.map encF) rn rtm = fs.length + 1 := by unfold report_Result_v20; rw [e21]
  have e11 : report_Result_v11 (cs.map encC) (fs.map encF) rn rtm = ((fs.length : Nat) : Int) := by unfold report_Result_v11 report_Result_v19; rw [e21]; rw [List.length_map]
  have e18 : report_Result_v18 (cs.map encC) (fs.map encF) rn rtm = encT (headF false cs :: fs.map (rowF false cs.length)) := by unfold report_Result_v18 report_Result_v19; rw [e21]
  have e13 : report_Result_v13 (cs.map encC) (fs.map encF) rn rtm = some T := by
    unfold report_Result_v13; rw [e20, e18, take_encT _ _ (by simp)]; exact htab
  have e7 : report_Result_v7 (cs.map encC) (fs.map encF) rn rtm = T := by unfold report_Result_v7; rw [e13]; rfl
  have e12 : report_Result_v12 (cs.map encC) (fs.map encF) rn rtm = true := by unfold report_Result_v12; rw [e13]; rfl
  have e2 : report_Result_v2 (cs.map encC) (fs.map encF) rn rtm = true := by
    unfold report_Result_v2; rw [e20, e18, encT_len, List.length_cons, List.length_map, decide_eq_true d5]; rfl
  have e3 : report_Result_v3 (cs.map encC) (fs.map encF) rn rtm = true := by unfold report_Result_v3; rw [e11]; exact decide_eq_true d6
  have e32 : report_Result_v32 (cs.map encC) (fs.map encF) rn rtm = some (itoa ((fs.length : Nat) : Int) ++ [32] ++ wRows ++ [10]) := by
    unfold report_Result_v32; rw [e11]; exact word_line _ d9 wRows (by decide)
  have e36 : report_Result_v36 (cs.map encC) (fs.map encF) rn rtm = some (itoa ((fs.length : Nat) : Int) ++ [32] ++ wRow ++ [10]) := by
    unfold report_Result_v36; rw [e11]; exact word_line _ d9 wRow (by decide)
  have e29 : report_Result_v29 (cs.map encC) (fs.map encF) rn rtm = itoa ((fs.length : Nat) : Int) ++ [32] ++ wRows ++ [10] := by unfold report_Result_v29; rw [e32]; rfl
  have e35 : report_Result_v35 (cs.map encC) (fs.map encF) rn rtm = itoa ((fs.length : Nat) : Int) ++ [32] ++ wRow ++ [10] := by unfold report_Result_v35; rw [e36]; rfl
  have b0 : (((cs.length : Nat) : Int) == 0) = false := by simpa using d8
  unfold report_Result report_Result_t
  rw [hc, hn, e31, e23, e11, e2, e12, e3, e36, e32, e7, e35, e29, List.length_map, b0]
  simp only [Option.getD_some, Option.isSome_some, br_tt, brF, encS_len, namesOf_len]
  rw [decide_eq_true d4, decide_eq_true (d7 wRow (by decide)), decide_eq_true (d7 wRows (by decide))]
  unfold resTxt
  by_cases h1 : fs.length = 1
  · have b1 : (((fs.length : Nat) : Int) == 1) = true := by rw [h1]; rfl
    rw [b1, if_pos h1]; rfl
  · have b1 : (((fs.length : Nat) : Int) == 1) = false := by simpa using (by omega : ¬ ((fs.length : Nat) : Int) = 1)
    rw [b1, if_neg h1]; rfl

/-- A result with columns, as report.Result writes it. -/
theorem result_ok (T : Sx) (hT : T = tabTxt (headF (fs.any timedF) cs) (fs.map (rowF (fs.any timedF) cs.length)) (widthsOf (headF (fs.any timedF) cs :: fs.map (rowF (fs.any timedF) cs.length)) (headF (fs.any timedF) cs).length)) (hTl : T.length ≤ 70368744177664) :
    report_Result (cs.map encC) (fs.map encF) rn rtm = some (resTxt fs.length T) := by
  cases htm : fs.any timedF with
  | true => rw [htm] at hT; exact result_true cs fs rn rtm hc1 hcs hfs hfw htm T hT hTl
  | false => rw [htm] at hT; exact result_false cs fs rn rtm hc1 hcs hfs hfw htm T hT hTl
end
end Go.Sim.M
