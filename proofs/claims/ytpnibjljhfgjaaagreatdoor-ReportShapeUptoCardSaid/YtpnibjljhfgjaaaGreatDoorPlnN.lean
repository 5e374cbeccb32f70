/- The law on results. -/
import Derived.Test.YtpnibjljhfgjaaaGreatDoorPlnO
import Derived.Test.YtpnibjljhfgjaaaGreatDoorPlnV
set_option linter.unusedVariables false
set_option linter.unusedSectionVars false
set_option linter.unusedSimpArgs false
set_option maxRecDepth 100000
namespace Go.Sim.M
open Go.RowKit Go.Lib

/-! A result without columns. -/
def doneTxt (rn rtm : Int) : Sx := [111, 107] ++ (if rn = 0 then [] else [44, 32, 99, 111, 117, 110, 116, 32] ++ itoa rn) ++ (if rtm = 0 then [] else [44, 32, 116, 105, 109, 101, 32] ++ itoa rtm) ++ [10]

theorem parts_line (l : List Sx) (T : Sx) (h1 : l.length ≤ 10) (h2 : (join l [44, 32]).length ≤ 1000) (e : join l [44, 32] ++ [10] = T) : report_line [44, 32] (encS l) = some T := by
  rw [line_any _ l (by omega) (by omega), e]

section
variable (fs : List AV) (rn rtm : Int) (h1 : -1152921504606846976 ≤ rn ∧ rn ≤ 1152921504606846976) (h2 : -1152921504606846976 ≤ rtm ∧ rtm ≤ 1152921504606846976)
include h1 h2
theorem done_r : report_Result [] fs rn rtm = some (doneTxt rn rtm) := by
  have l1 := itoa_len' rn (by omega) (by omega)
  have l2 := itoa_len' rtm (by omega) (by omega)
  have c1 : (decide ((-9223372036854775808 : Int) ≤ rn) && decide (rn ≤ (9223372036854775807 : Int))) = true := by simp; omega
  have c2 : (decide ((-9223372036854775808 : Int) ≤ rtm) && decide (rtm ≤ (9223372036854775807 : Int))) = true := by simp; omega
  have c3 : decide ((6 : Nat) + (Lib.itoa rn).length ≤ (4611686018427387904 : Nat)) = true := decide_eq_true (by omega)
  have c4 : decide ((5 : Nat) + (Lib.itoa rtm).length ≤ (4611686018427387904 : Nat)) = true := decide_eq_true (by omega)
  unfold report_Result report_Result_t report_Result_v4 report_Result_v6
  rw [c1, c2, c3, c4]
  have b0 : ((([] : List AV).length : Int) == 0) = true := rfl
  rw [b0]
  simp only [br_tt]
  by_cases hn : rn = 0
  · have b1 : (rn != 0) = false := by simp [hn]
    by_cases ht : rtm = 0
    · have b2 : (rtm != 0) = false := by simp [ht]
      have := parts_line [[111, 107]] (doneTxt rn rtm) (by simp) (by simp [join_one]) (by rw [join_one]; simp [doneTxt, hn, ht])
      unfold encS at this
      rw [b1, b2, brF, brF]
      exact congrArg some (by show (report_line _ (List.map AV.str [[111, 107]])).getD [] = _; rw [this]; rfl)
    · have b2 : (rtm != 0) = true := by simp [ht]
      have := parts_line [[111, 107], [116, 105, 109, 101, 32] ++ itoa rtm] (doneTxt rn rtm) (by simp) (by rw [join_cons]; simp [joinTail]; omega) (by rw [join_cons]; simp [joinTail, doneTxt, hn, ht])
      have e : report_Result_v26 rtm = some (doneTxt rn rtm) := this
      rw [b1, b2, brF, e]; rfl
  · have b1 : (rn != 0) = true := by simp [hn]
    by_cases ht : rtm = 0
    · have b2 : (rtm != 0) = false := by simp [ht]
      have := parts_line [[111, 107], [99, 111, 117, 110, 116, 32] ++ itoa rn] (doneTxt rn rtm) (by simp) (by rw [join_cons]; simp [joinTail]; omega) (by rw [join_cons]; simp [joinTail, doneTxt, hn, ht])
      have e : report_Result_v25 rn = some (doneTxt rn rtm) := this
      rw [b1, b2, brF, e]; rfl
    · have b2 : (rtm != 0) = true := by simp [ht]
      have := parts_line [[111, 107], [99, 111, 117, 110, 116, 32] ++ itoa rn, [116, 105, 109, 101, 32] ++ itoa rtm] (doneTxt rn rtm) (by simp) (by rw [join_cons]; simp [joinTail]; omega) (by rw [join_cons]; simp [joinTail, doneTxt, hn, ht])
      have e : report_Result_v24 rn rtm = some (doneTxt rn rtm) := this
      rw [b1, b2, e]; rfl

theorem done_f : ref55_Result [] fs rn rtm = some (doneTxt rn rtm) := by
  have l1 := itoa_len' rn (by omega) (by omega)
  have l2 := itoa_len' rtm (by omega) (by omega)
  have e : ref55_done [] fs rn rtm = some (doneTxt rn rtm) := by
    unfold ref55_done ref55_done_t ref55_done_v0 ref55_done_v1 ref55_done_v2 ref55_done_v3 ref55_done_v0
    rw [number07_eq rn (by omega) (by omega), number07_eq rtm (by omega) (by omega)]
    simp only [Option.isSome_some, Option.getD_some, br_tt]
    by_cases hn : rn = 0
    · have b1 : (rn != 0) = false := by simp [hn]
      by_cases ht : rtm = 0
      · have b2 : (rtm != 0) = false := by simp [ht]
        rw [b1, b2, brF, brF]; simp [doneTxt, hn, ht]
      · have b2 : (rtm != 0) = true := by simp [ht]
        rw [b1, b2, brF]
        simp only [br_tt, br_if]
        repeat rw [if_pos (by first | (simp; done) | (simp; omega))]
        simp [doneTxt, hn, ht]
    · have b1 : (rn != 0) = true := by simp [hn]
      by_cases ht : rtm = 0
      · have b2 : (rtm != 0) = false := by simp [ht]
        rw [b1, b2]
        simp only [br_tt, brF, br_if]
        repeat rw [if_pos (by first | (simp; done) | (simp; omega))]
        simp [doneTxt, hn, ht]
        omega
      · have b2 : (rtm != 0) = true := by simp [ht]
        rw [b1, b2]
        simp only [br_tt, br_if]
        repeat rw [if_pos (by first | (simp; done) | (simp; omega))]
        simp [doneTxt, hn, ht]
  unfold ref55_Result ref55_Result_t
  rw [e]; rfl
end

/-! The guard. -/
theorem tame0_loop (cs : List Col) (fs : List AV) (a b : Int) (hcs : cs.length ≤ 1073741824) : ∀ (k n : Nat) (x : Int), n + k = cs.length → ∃ y, Iter ref55_Tame_l0_step (x, ((n : Nat) : Int), cs.map encC, fs, a, b) = some (y, cs.map encC, fs, a, b)
  | 0, n, x, hk => by
    obtain rfl : n = cs.length := by omega
    refine ⟨x, iter_end ?_⟩
    unfold ref55_Tame_l0_step
    simp only
    unfold ref55_Tame_l0_t
    rw [List.length_map, decide_eq_false (by omega : ¬ ((cs.length : Nat) : Int) < ((cs.length : Nat) : Int))]
    rfl
  | k + 1, n, x, hk => by
    have h1 : n < cs.length := by omega
    have d1 : ((n : Nat) : Int) < ((cs.length : Nat) : Int) := by omega
    have d2 : (0 : Int) ≤ ((n : Nat) : Int) := by omega
    have gf : (cs.map encC).getD n .top = encC cs[n] := getD_map _ _ _ h1
    have sh : hasSh1 Sh.str ((encC cs[n]).cells.getD 0 .top) = true := rfl
    have st : ∃ x', ref55_Tame_l0_step (x, ((n : Nat) : Int), cs.map encC, fs, a, b) = some (.inl (x', ((n + 1 : Nat) : Int), cs.map encC, fs, a, b)) := by
      unfold ref55_Tame_l0_step
      simp only
      unfold ref55_Tame_l0_t
      rw [Int.toNat_natCast, gf, sh, List.length_map, decide_eq_true d1, decide_eq_true d2, decide_eq_true h1, wrap_nat (show n + 1 ≤ maxLen by unfold maxLen; omega)]
      exact ⟨_, rfl⟩
    obtain ⟨x', st⟩ := st
    obtain ⟨y, hy⟩ := tame0_loop cs fs a b hcs k (n + 1) x' (by omega)
    exact ⟨y, by rw [iter_step st]; exact hy⟩

theorem tame1_loop (cs : List AV) (fs : List Fct) (a b : Int) (hfs : fs.length ≤ 1073741824) : ∀ (k n : Nat) (x : Int), n + k = fs.length → ∃ y, Iter ref55_Tame_l1_step (x, ((n : Nat) : Int), cs, fs.map encF, a, b) = some y
  | 0, n, x, hk => by
    obtain rfl : n = fs.length := by omega
    refine ⟨x, iter_end ?_⟩
    unfold ref55_Tame_l1_step
    simp only
    unfold ref55_Tame_l1_t
    rw [List.length_map, decide_eq_false (by omega : ¬ ((fs.length : Nat) : Int) < ((fs.length : Nat) : Int))]
    rfl
  | k + 1, n, x, hk => by
    have h1 : n < fs.length := by omega
    have d1 : ((n : Nat) : Int) < ((fs.length : Nat) : Int) := by omega
    have d2 : (0 : Int) ≤ ((n : Nat) : Int) := by omega
    have gf : (fs.map encF).getD n .top = encF fs[n] := getD_map _ _ _ h1
    have sh : hasSh1 (Sh.list 3) ((encF fs[n]).cells.getD 0 .top) = true := rfl
    have st : ∃ x', ref55_Tame_l1_step (x, ((n : Nat) : Int), cs, fs.map encF, a, b) = some (.inl (x', ((n + 1 : Nat) : Int), cs, fs.map encF, a, b)) := by
      unfold ref55_Tame_l1_step
      simp only
      unfold ref55_Tame_l1_t
      rw [Int.toNat_natCast, gf, sh, List.length_map, decide_eq_true d1, decide_eq_true d2, decide_eq_true h1, wrap_nat (show n + 1 ≤ maxLen by unfold maxLen; omega)]
      exact ⟨_, rfl⟩
    obtain ⟨x', st⟩ := st
    obtain ⟨y, hy⟩ := tame1_loop cs fs a b hfs k (n + 1) x' (by omega)
    exact ⟨y, by rw [iter_step st]; exact hy⟩

theorem ref_tame (cs : List Col) (fs : List Fct) (a b : Int) (hcs : cs.length ≤ 1073741824) (hfs : fs.length ≤ 1073741824) : ∃ t, ref55_Tame (cs.map encC) (fs.map encF) a b = some t := by
  obtain ⟨y, hy⟩ := tame0_loop cs (fs.map encF) a b hcs cs.length 0 (IntKind.i64.wrap (IntKind.i64.wrap ((((fs.map encF).length : Nat) : Int) * IntKind.i64.wrap ((((cs.map encC).length : Nat) : Int) + (1 : Int))) + (((cs.map encC).length : Nat) : Int))) (by omega)
  obtain ⟨z, hz⟩ := tame1_loop (cs.map encC) fs a b hfs fs.length 0 y (by omega)
  have e5 : ref55_Tame_v5 (cs.map encC) (fs.map encF) a b = some (y, cs.map encC, fs.map encF, a, b) := by unfold ref55_Tame_v5; exact hy
  have e4 : ref55_Tame_v4 (cs.map encC) (fs.map encF) a b = (y, cs.map encC, fs.map encF, a, b) := by unfold ref55_Tame_v4; rw [e5]; rfl
  have e0 : ref55_Tame_v0 (cs.map encC) (fs.map encF) a b = some z := by
    unfold ref55_Tame_v0 ref55_Tame_v1 ref55_Tame_v2 ref55_Tame_v3
    rw [e4]; exact hz
  unfold ref55_Tame ref55_Tame_t
  rw [e5, e0]
  exact ⟨_, rfl⟩

/-! Sizes of a result's text, by its arguments' bulk. -/
def nmSum : List Col → Nat
  | [] => 0
  | c :: cs => c.name.length + nmSum cs
theorem wt_cols : ∀ cs : List Col, nmSum cs + 3 * cs.length ≤ AV.wts (cs.map encC)
  | [] => by simp [nmSum]
  | c :: cs => by
    have := wt_cols cs
    have e : AV.wt (encC c) = c.name.length + 3 := by simp [encC, AV.wt, AV.wts]
    simp only [nmSum, List.map_cons, AV.wts, e, List.length_cons]; omega
theorem wt_facts : ∀ fs : List Fct, 3 * fs.length ≤ AV.wts (fs.map encF)
  | [] => by simp
  | f :: fs => by
    have := wt_facts fs
    have e : 3 ≤ AV.wt (encF f) := by simp [encF, AV.wt, AV.wts]
    simp only [List.map_cons, AV.wts, List.length_cons]; omega
theorem bnd_sum : ∀ cs : List Col, (cs.map fun c => c.name.length + 410).sum = nmSum cs + 410 * cs.length
  | [] => rfl
  | c :: cs => by simp only [List.map_cons, List.sum_cons, bnd_sum cs, nmSum, List.length_cons]; omega

def bndF (tm : Bool) (cs : List Col) : List Nat := (cs.map fun c => c.name.length + 410) ++ (if tm then [60] else [])
theorem bndF_len (tm : Bool) (cs : List Col) : (bndF tm cs).length = cs.length + (if tm then 1 else 0) := by
  unfold bndF; rw [List.length_append, List.length_map]; cases tm <;> rfl
theorem bndF_sum (tm : Bool) (cs : List Col) : (bndF tm cs).sum ≤ nmSum cs + 410 * cs.length + 60 := by
  unfold bndF; rw [List.sum_append, bnd_sum]; cases tm <;> simp
theorem leS_head (tm : Bool) (cs : List Col) : leS (headF tm cs) (bndF tm cs) := by
  unfold headF bndF
  refine leS_append _ _ _ _ (leS_names cs) ?_
  cases tm with
  | true => exact ⟨by decide, trivial⟩
  | false => trivial
theorem leS_row (tm : Bool) (cs : List Col) (x : Fct) (hx : x.wf) : leS (rowF tm cs.length x) (bndF tm cs) := by
  unfold rowF bndF
  refine leS_append _ _ _ _ (leS_vals cs x.row hx.1) ?_
  cases tm with
  | true => exact ⟨by have := pTxt_len x.f x.t; omega, trivial⟩
  | false => trivial

section
variable (cs : List Col) (fs : List Fct) (rn rtm : Int) (hb : nmSum cs + 3 * cs.length + 3 * fs.length ≤ 1048576) (hfw : ∀ x, x ∈ fs → x.wf)
include hb hfw

theorem res_bound (tm : Bool) : (tabTxt (headF tm cs) (fs.map (rowF tm cs.length)) (widthsOf (headF tm cs :: fs.map (rowF tm cs.length)) (headF tm cs).length)).length ≤ 70368744177664 ∧
    ∀ w, w ∈ widthsOf (headF tm cs :: fs.map (rowF tm cs.length)) (headF tm cs).length → w ≤ 70368744177664 := by
  have hl : (headF tm cs).length = (bndF tm cs).length := by rw [headF_len, bndF_len]
  have hr : ∀ r, r ∈ fs.map (rowF tm cs.length) → leS r (bndF tm cs) := fun r hr => by
    obtain ⟨x, hx, rfl⟩ := List.mem_map.1 hr
    exact leS_row tm cs x (hfw x hx)
  have hs := bndF_sum tm cs
  have hbl := bndF_len tm cs
  have hbl' : (bndF tm cs).length ≤ cs.length + 1 := by rw [hbl]; split <;> omega
  rw [hl]
  refine ⟨?_, fun w h => ?_⟩
  · have h := tab_len (headF tm cs) (fs.map (rowF tm cs.length)) (bndF tm cs) (leS_head tm cs) hr (fun r h => by
      rcases List.mem_cons.1 h with rfl | h
      · exact hl
      · obtain ⟨x, _, rfl⟩ := List.mem_map.1 h
        rw [rowF_len, bndF_len])
    rw [List.length_map] at h
    refine Nat.le_trans h ?_
    have g : (bndF tm cs).sum + 3 * (bndF tm cs).length + 1 ≤ 150000000 := by omega
    have g2 : fs.length + 2 ≤ 349530 := by omega
    exact Nat.le_trans (Nat.mul_le_mul g2 g) (by decide)
  · have := tab_widths (headF tm cs) (fs.map (rowF tm cs.length)) (bndF tm cs) (leS_head tm cs) hr w h
    omega

/-- THE LAW ON RESULTS. -/
theorem law_results : law55_ReportResults (cs.map encC) (fs.map encF) rn rtm = some true := by
  obtain ⟨t, ht⟩ := ref_tame cs fs rn rtm (by omega) (by omega)
  obtain ⟨b, hb', hall⟩ := tame_ok [rn, rtm] (by simp)
  have hb2 : law55_tame [AV.int .i64 rn, AV.int .i64 rtm] = some b := hb'
  unfold law55_ReportResults law55_ReportResults_t
  rw [ht, hb2]
  cases t with
  | false => rfl
  | true =>
    cases b with
    | false => rfl
    | true =>
      have hrn := hall rfl rn (by simp)
      have hrt := hall rfl rtm (by simp)
      have fin : ∃ s, report_Result (cs.map encC) (fs.map encF) rn rtm = some s ∧ ref55_Result (cs.map encC) (fs.map encF) rn rtm = some s := by
        by_cases hc : cs.length = 0
        · obtain rfl : cs = [] := List.length_eq_zero_iff.1 hc
          exact ⟨_, done_r _ rn rtm hrn hrt, done_f _ rn rtm hrn hrt⟩
        · obtain ⟨b1, b2⟩ := res_bound cs fs hb hfw (fs.any timedF)
          exact ⟨_, result_ok cs fs rn rtm (by omega) (by omega) (by omega) hfw _ rfl b1, rresult_ok cs fs rn rtm (by omega) (by omega) (by omega) hfw (fs.any timedF) rfl _ rfl b1 b2⟩
      obtain ⟨s, e1, e2⟩ := fin
      rw [e1, e2]
      simp only [Option.isSome_some, Option.getD_some, Bool.not_true, brF, br_tt, beq_self_eq_true]
end

/-- The law on results, as the card asks for it. -/
theorem law_res (a : Res) (w : a.wf) (hbulk : (AV.agg [.list 3 (a.c.map encC), .list 3 (a.fs.map encF), .int .i64 a.n, .int .i64 a.tm]).wt ≤ 1048576) : law55_ReportResults (a.c.map encC) (a.fs.map encF) a.n a.tm = some true := by
  have h1 := wt_cols a.c
  have h2 := wt_facts a.fs
  simp only [AV.wt, AV.wts] at hbulk
  exact law_results a.c a.fs a.n a.tm (by omega) w.2.1.2
end Go.Sim.M
