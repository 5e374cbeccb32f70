/- Results as tables: the reference as a whole. -/
import Derived.Test.YtpnibjljhfgjaaaGreatDoorPlnP
set_option linter.unusedVariables false
set_option linter.unusedSectionVars false
set_option linter.unusedSimpArgs false
set_option maxRecDepth 100000
namespace Go.Sim.M
open Go.RowKit Go.Lib

section
variable (cs : List Col) (fs : List Fct) (rn rtm : Int) (hc1 : 1 ≤ cs.length) (hcs : cs.length ≤ 1048576) (hfs : fs.length ≤ 1073741000) (hfw : ∀ x, x ∈ fs → x.wf)
include hc1 hcs hfs hfw

theorem rres_table (tm : Bool) (T : Sx) (hT : T = tabTxt (headF tm cs) (fs.map (rowF tm cs.length)) (widthsOf (headF tm cs :: fs.map (rowF tm cs.length)) (headF tm cs).length)) (hTl : T.length ≤ 70368744177664)
    (hw : ∀ w, w ∈ widthsOf (headF tm cs :: fs.map (rowF tm cs.length)) (headF tm cs).length → w ≤ 70368744177664) : ref55_table (encS (headF tm cs)) (encT (fs.map (rowF tm cs.length))) = some T := by
  rw [hT]
  rw [hT] at hTl
  have hl := headF_len tm cs
  have hr : ∀ r, r ∈ fs.map (rowF tm cs.length) → r.length = (headF tm cs).length := fun r hr => by
    obtain ⟨x, _, rfl⟩ := List.mem_map.1 hr
    rw [rowF_len, headF_len]
  refine rtable_ok _ _ (headF tm cs).length (by omega) (by rw [hl]; split <;> omega) rfl hr (by rw [List.length_map]; omega) _ rfl ?_ hw hTl
  exact fold_len _ _ _ (fun r h => by
    rcases List.mem_cons.1 h with rfl | h
    · rfl
    · exact hr r h) (by simp)

set_option maxHeartbeats 1000000 in
theorem rresult_ok (tm : Bool) (htm : fs.any timedF = tm) (T : Sx) (hT : T = tabTxt (headF tm cs) (fs.map (rowF tm cs.length)) (widthsOf (headF tm cs :: fs.map (rowF tm cs.length)) (headF tm cs).length)) (hTl : T.length ≤ 70368744177664)
    (hw : ∀ w, w ∈ widthsOf (headF tm cs :: fs.map (rowF tm cs.length)) (headF tm cs).length → w ≤ 70368744177664) :
    ref55_Result (cs.map encC) (fs.map encF) rn rtm = some (resTxt fs.length T) := by
  have hl := itoa_len ((fs.length : Nat) : Int) (by omega) (by omega)
  have d1 : (cs.length == cs.length) = true := by simp
  have d2 : (cs.length + 1) * 16 ≤ 140737488355328 := by omega
  have d3 : cs.length + 1 ≤ 4611686018427387904 := by omega
  have d5 : 0 + fs.length ≤ fs.length := by omega
  have d6 : T.length + (itoa ((fs.length : Nat) : Int)).length ≤ 4611686018427387904 := by omega
  have d7 : (T ++ itoa ((fs.length : Nat) : Int)).length + 5 ≤ 4611686018427387904 := by rw [List.length_append]; omega
  have d7' : (T ++ itoa ((fs.length : Nat) : Int)).length + 6 ≤ 4611686018427387904 := by rw [List.length_append]; omega
  have d8 : ¬ ((cs.length : Nat) : Int) = 0 := by omega
  have b0 : (((cs.length : Nat) : Int) == 0) = false := by simpa using d8
  have hnum := number07_eq ((fs.length : Nat) : Int) (by omega) (by omega)
  have hlen := headF_len tm cs
  have htl := rtimed_loop cs fs rn rtm hcs hfs hfw (cs.map encC) fs.length 0 false (by omega)
  rw [List.drop_zero, Bool.false_or, htm] at htl
  have hn := fnames_ok cs (by omega)
  have htab := rres_table cs fs hc1 hcs hfs hfw tm T hT hTl hw
  have e36 : ref55_Result_v36 (cs.map encC) (fs.map encF) rn rtm = some (tm, cs.map encC, fs.map encF, rn, rtm) := by unfold ref55_Result_v36; exact htl
  have e35 : ref55_Result_v35 (cs.map encC) (fs.map encF) rn rtm = (tm, cs.map encC, fs.map encF, rn, rtm) := by unfold ref55_Result_v35; rw [e36]; rfl
  have e28 : ref55_Result_v28 (cs.map encC) (fs.map encF) rn rtm = tm := by unfold ref55_Result_v28; rw [e35]
  have e34 : ref55_Result_v34 (cs.map encC) (fs.map encF) rn rtm = (cs.map encC, fs.map encF, rn, rtm) := by unfold ref55_Result_v34; rw [e35]
  have e27 : ref55_Result_v27 (cs.map encC) (fs.map encF) rn rtm = cs.map encC := by unfold ref55_Result_v27; rw [e34]
  have e33 : ref55_Result_v33 (cs.map encC) (fs.map encF) rn rtm = (fs.map encF, rn, rtm) := by unfold ref55_Result_v33; rw [e34]
  have e32 : ref55_Result_v32 (cs.map encC) (fs.map encF) rn rtm = fs.map encF := by unfold ref55_Result_v32; rw [e33]
  have e31 : ref55_Result_v31 (cs.map encC) (fs.map encF) rn rtm = (rn, rtm) := by unfold ref55_Result_v31; rw [e33]
  have e30 : ref55_Result_v30 (cs.map encC) (fs.map encF) rn rtm = rn := by unfold ref55_Result_v30; rw [e31]
  have e29 : ref55_Result_v29 (cs.map encC) (fs.map encF) rn rtm = rtm := by unfold ref55_Result_v29; rw [e31]
  have e25 : ref55_Result_v25 (cs.map encC) (fs.map encF) rn rtm = cs.length := by unfold ref55_Result_v25; rw [e27, hn]; rfl
  have e26 : ref55_Result_v26 (cs.map encC) (fs.map encF) rn rtm = encS (namesOf cs) := by unfold ref55_Result_v26; rw [e27, hn]; rfl
  have e24 : ref55_Result_v24 (cs.map encC) (fs.map encF) rn rtm = cs.length + 1 := by unfold ref55_Result_v24; rw [e25]
  cases tm with
  | true =>
    have hhd : encS (namesOf cs) ++ [AV.str [118, 97, 108, 105, 100]] = encS (headF true cs) := by unfold headF; rw [encS_app]; rfl
    have hlen' : (headF true cs).length = cs.length + 1 := hlen
    have hloop := rres_loop cs fs rn rtm hcs hfs hfw true (cs.length + 1) (encS (headF true cs)) fs.length 0 (by omega)
    rw [List.take_zero] at hloop
    have e18 : ref55_Result_v18 (cs.map encC) (fs.map encF) rn rtm = some (fs.length, encS (headF true cs), encT (fs.map (rowF true cs.length))) := by
      unfold ref55_Result_v18; rw [e28, e24, e27, e32, e30, e29, e26, hhd]; exact hloop
    have e17 : ref55_Result_v17 (cs.map encC) (fs.map encF) rn rtm = (fs.length, encS (headF true cs), encT (fs.map (rowF true cs.length))) := by unfold ref55_Result_v17; rw [e18]; rfl
    have e12 : ref55_Result_v12 (cs.map encC) (fs.map encF) rn rtm = fs.length := by unfold ref55_Result_v12; rw [e17]
    have e15 : ref55_Result_v15 (cs.map encC) (fs.map encF) rn rtm = encS (headF true cs) := by unfold ref55_Result_v15 ref55_Result_v16; rw [e17]
    have e14 : ref55_Result_v14 (cs.map encC) (fs.map encF) rn rtm = encT (fs.map (rowF true cs.length)) := by unfold ref55_Result_v14 ref55_Result_v16; rw [e17]
    have e8 : ref55_Result_v8 (cs.map encC) (fs.map encF) rn rtm = some T := by
      unfold ref55_Result_v8; rw [e24, e15, e12, e14, take_encS _ _ hlen'.symm, take_encT _ _ (by simp)]; exact htab
    have e6 : ref55_Result_v6 (cs.map encC) (fs.map encF) rn rtm = T := by unfold ref55_Result_v6; rw [e8]; rfl
    have e7 : ref55_Result_v7 (cs.map encC) (fs.map encF) rn rtm = true := by unfold ref55_Result_v7; rw [e8]; rfl
    have e1 : ref55_Result_v1 (cs.map encC) (fs.map encF) rn rtm = true := by
      unfold ref55_Result_v1; rw [e24, e15, e12, e14, encS_len, encT_len, hlen', List.length_map, decide_eq_true d5, Nat.zero_add, decide_eq_true (Nat.le_refl _)]; rfl
    have e0 : ref55_Result_v0 (cs.map encC) (fs.map encF) rn rtm = true := by unfold ref55_Result_v0; rw [e6, e12, hnum]; exact decide_eq_true d6
    have e3 : ref55_Result_v3 (cs.map encC) (fs.map encF) rn rtm = T ++ itoa ((fs.length : Nat) : Int) := by unfold ref55_Result_v3; rw [e6, e12, hnum]; rfl
    unfold ref55_Result ref55_Result_t
    rw [e36, e27, hn, e28, e25, e26, e24, e18, e12, e1, e7, hnum, e0, e3, List.length_map, b0]
    simp only [Option.getD_some, Option.isSome_some, br_tt, brF, encS_len, namesOf_len]
    rw [d1, decide_eq_true d2, decide_eq_true d3, decide_eq_true d7, decide_eq_true d7']
    unfold resTxt
    by_cases h1 : fs.length = 1
    · have b1 : (((fs.length : Nat) : Int) == 1) = true := by rw [h1]; rfl
      rw [b1, if_pos h1]; simp [br_tt, wRow]
    · have b1 : (((fs.length : Nat) : Int) == 1) = false := by simpa using (by omega : ¬ ((fs.length : Nat) : Int) = 1)
      rw [b1, if_neg h1]; simp [br_tt, brF, wRows]
  | false =>
    have hhd : headF false cs = namesOf cs := by simp [headF]
    have hlen' : (headF false cs).length = cs.length := hlen
    have hloop := rres_loop cs fs rn rtm hcs hfs hfw false cs.length (encS (headF false cs)) fs.length 0 (by omega)
    rw [List.take_zero] at hloop
    have e23 : ref55_Result_v23 (cs.map encC) (fs.map encF) rn rtm = some (fs.length, encS (headF false cs), encT (fs.map (rowF false cs.length))) := by
      unfold ref55_Result_v23; rw [e28, e25, e27, e32, e30, e29, e26, ← hhd]; exact hloop
    have e22 : ref55_Result_v22 (cs.map encC) (fs.map encF) rn rtm = (fs.length, encS (headF false cs), encT (fs.map (rowF false cs.length))) := by unfold ref55_Result_v22; rw [e23]; rfl
    have e13 : ref55_Result_v13 (cs.map encC) (fs.map encF) rn rtm = fs.length := by unfold ref55_Result_v13; rw [e22]
    have e19 : ref55_Result_v19 (cs.map encC) (fs.map encF) rn rtm = encS (headF false cs) := by unfold ref55_Result_v19 ref55_Result_v21; rw [e22]
    have e20 : ref55_Result_v20 (cs.map encC) (fs.map encF) rn rtm = encT (fs.map (rowF false cs.length)) := by unfold ref55_Result_v20 ref55_Result_v21; rw [e22]
    have e11 : ref55_Result_v11 (cs.map encC) (fs.map encF) rn rtm = some T := by
      unfold ref55_Result_v11; rw [e25, e19, e13, e20, take_encS _ _ hlen'.symm, take_encT _ _ (by simp)]; exact htab
    have e9 : ref55_Result_v9 (cs.map encC) (fs.map encF) rn rtm = T := by unfold ref55_Result_v9; rw [e11]; rfl
    have e10 : ref55_Result_v10 (cs.map encC) (fs.map encF) rn rtm = true := by unfold ref55_Result_v10; rw [e11]; rfl
    have e4 : ref55_Result_v4 (cs.map encC) (fs.map encF) rn rtm = true := by
      unfold ref55_Result_v4; rw [e25, e19, e13, e20, encS_len, encT_len, hlen', List.length_map, decide_eq_true d5, Nat.zero_add, decide_eq_true (Nat.le_refl _)]; rfl
    have e2 : ref55_Result_v2 (cs.map encC) (fs.map encF) rn rtm = true := by unfold ref55_Result_v2; rw [e9, e13, hnum]; exact decide_eq_true d6
    have e5 : ref55_Result_v5 (cs.map encC) (fs.map encF) rn rtm = T ++ itoa ((fs.length : Nat) : Int) := by unfold ref55_Result_v5; rw [e9, e13, hnum]; rfl
    unfold ref55_Result ref55_Result_t
    rw [e36, e27, hn, e28, e23, e13, e4, e10, hnum, e2, e5, List.length_map, b0]
    simp only [Option.getD_some, Option.isSome_some, br_tt, brF]
    rw [decide_eq_true d7, decide_eq_true d7']
    unfold resTxt
    by_cases h1 : fs.length = 1
    · have b1 : (((fs.length : Nat) : Int) == 1) = true := by rw [h1]; rfl
      rw [b1, if_pos h1]; simp [br_tt, wRow]
    · have b1 : (((fs.length : Nat) : Int) == 1) = false := by simpa using (by omega : ¬ ((fs.length : Nat) : Int) = 1)
      rw [b1, if_neg h1]; simp [br_tt, brF, wRows]
end
end Go.Sim.M
