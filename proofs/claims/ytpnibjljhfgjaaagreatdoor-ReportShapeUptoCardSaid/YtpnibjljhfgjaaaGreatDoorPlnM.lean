/- The law on the shape of tables. -/
import Derived.Test.YtpnibjljhfgjaaaGreatDoorPlnJ
set_option linter.unusedVariables false
set_option linter.unusedSectionVars false
set_option linter.unusedSimpArgs false
set_option maxRecDepth 100000
namespace Go.Sim.M
open Go.RowKit Go.Lib

theorem i64_rng {n : Int} (h : I64 n) : -9223372036854775808 ≤ n ∧ n ≤ 9223372036854775807 := by
  have := i64_bnd h
  simpa using this

theorem itoa_len64 (n : Int) (h : I64 n) : (itoa n).length ≤ 20 := by
  obtain ⟨h1, h2⟩ := i64_rng h
  unfold itoa
  have := dec_len 18 n.natAbs (by omega)
  have := dec_len 18 n.toNat (by omega)
  split <;> simp <;> omega

section
variable (fs : List AV) (rn rtm : Int) (h1 : I64 rn) (h2 : I64 rtm)
include h1 h2
theorem done_r64 : report_Result [] fs rn rtm = some (doneTxt rn rtm) := by
  have l1 := itoa_len64 rn h1
  have l2 := itoa_len64 rtm h2
  have c1 := i64_bnd h1
  have c2 := i64_bnd h2
  have c3 : decide ((6 : Nat) + (Lib.itoa rn).length ≤ (4611686018427387904 : Nat)) = true := decide_eq_true (by omega)
  have c4 : decide ((5 : Nat) + (Lib.itoa rtm).length ≤ (4611686018427387904 : Nat)) = true := decide_eq_true (by omega)
  unfold report_Result report_Result_t report_Result_v4 report_Result_v6
  rw [c1, c2, c3, c4]
  have b0 : ((([] : List AV).length : Int) == 0) = true := rfl
  rw [b0]
  simp only [br_tt]
  by_cases hn : rn = 0
  · have b1 : (rn != 0) = false := by simp [hn]
    by_cases ht : rtm = 0
    · have b2 : (rtm != 0) = false := by simp [ht]
      have := parts_line [[111, 107]] (doneTxt rn rtm) (by simp) (by simp [join_one]) (by rw [join_one]; simp [doneTxt, hn, ht])
      unfold encS at this
      rw [b1, b2, brF, brF]
      exact congrArg some (by show (report_line _ (List.map AV.str [[111, 107]])).getD [] = _; rw [this]; rfl)
    · have b2 : (rtm != 0) = true := by simp [ht]
      have := parts_line [[111, 107], [116, 105, 109, 101, 32] ++ itoa rtm] (doneTxt rn rtm) (by simp) (by rw [join_cons]; simp [joinTail]; omega) (by rw [join_cons]; simp [joinTail, doneTxt, hn, ht])
      have e : report_Result_v26 rtm = some (doneTxt rn rtm) := this
      rw [b1, b2, brF, e]; rfl
  · have b1 : (rn != 0) = true := by simp [hn]
    by_cases ht : rtm = 0
    · have b2 : (rtm != 0) = false := by simp [ht]
      have := parts_line [[111, 107], [99, 111, 117, 110, 116, 32] ++ itoa rn] (doneTxt rn rtm) (by simp) (by rw [join_cons]; simp [joinTail]; omega) (by rw [join_cons]; simp [joinTail, doneTxt, hn, ht])
      have e : report_Result_v25 rn = some (doneTxt rn rtm) := this
      rw [b1, b2, brF, e]; rfl
    · have b2 : (rtm != 0) = true := by simp [ht]
      have := parts_line [[111, 107], [99, 111, 117, 110, 116, 32] ++ itoa rn, [116, 105, 109, 101, 32] ++ itoa rtm] (doneTxt rn rtm) (by simp) (by rw [join_cons]; simp [joinTail]; omega) (by rw [join_cons]; simp [joinTail, doneTxt, hn, ht])
      have e : report_Result_v24 rn rtm = some (doneTxt rn rtm) := this
      rw [b1, b2, e]; rfl
theorem done_len : (doneTxt rn rtm).length ≤ 100 := by
  have l1 := itoa_len64 rn h1
  have l2 := itoa_len64 rtm h2
  unfold doneTxt
  split <;> split <;> simp <;> omega
end
theorem done_cnt (rn rtm : Int) : (doneTxt rn rtm).count 10 = 1 := by
  unfold doneTxt
  have e : NoLf ([111, 107] ++ (if rn = 0 then [] else [44, 32, 99, 111, 117, 110, 116, 32] ++ itoa rn) ++ (if rtm = 0 then [] else [44, 32, 116, 105, 109, 101, 32] ++ itoa rtm)) := by
    refine noLf_app (noLf_app (by decide) ?_) ?_
    · split
      · exact noLf_nil
      · exact noLf_app (by decide) (itoa_no _)
    · split
      · exact noLf_nil
      · exact noLf_app (by decide) (itoa_no _)
  rw [List.count_append, noLf_cnt e]; rfl
theorem done_end (rn rtm : Int) : EndLf (doneTxt rn rtm) := ⟨_, rfl⟩

theorem res_cnt (n : Nat) (T : Sx) : (resTxt n T).count 10 = T.count 10 + 1 := by
  unfold resTxt
  have e : NoLf (itoa ((n : Nat) : Int) ++ [32] ++ (if n = 1 then wRow else wRows)) := by
    refine noLf_app (noLf_app (itoa_no _) (by decide)) ?_
    split <;> decide
  rw [List.count_append, List.count_append, noLf_cnt e]; rfl
theorem res_end (n : Nat) (T : Sx) : EndLf (resTxt n T) := endLf_app T ⟨_, rfl⟩
theorem res_len (n : Nat) (T : Sx) (hn : n ≤ 1073741824) : (resTxt n T).length ≤ T.length + 30 := by
  have := itoa_len ((n : Nat) : Int) (by omega) (by omega)
  unfold resTxt
  split <;> simp [wRow, wRows] <;> omega

theorem leS_rowV64 (cs : List Col) (x : Ver) (hx : x.wf) : leS (rowV cs.length x) (bndV cs) := by
  have i1 := itoa_len64 x.id hx.1
  have i2 := itoa_len64 x.by' hx.2.2.2.2.2.2.1
  have i3 := itoa_len64 x.un hx.2.2.2.2.2.2.2
  unfold rowV bndV
  refine leS_append _ _ _ _ (leS_append _ _ _ _ ⟨by omega, trivial⟩ (leS_vals cs x.row hx.2.1)) ⟨?_, ?_, by omega, ?_, trivial⟩
  · have := pTxt_len x.f x.t; omega
  · have := pTxt_len x.sf x.st; omega
  · split
    · decide
    · omega

theorem name_le : ∀ (cs : List Col) (c : Col), c ∈ cs → c.name.length ≤ nmSum cs
  | x :: cs, c, h => by
    rcases List.mem_cons.1 h with rfl | h
    · simp only [nmSum]; omega
    · have := name_le cs c h
      simp only [nmSum]; omega

section
variable (cs : List Col) (fs : List Fct) (vs : List Ver) (rn rtm : Int) (hb : nmSum cs + 3 * cs.length + 3 * fs.length + 3 * vs.length ≤ 1048576) (hfw : ∀ x, x ∈ fs → x.wf) (hvw : ∀ x, x ∈ vs → x.wf) (h1 : I64 rn) (h2 : I64 rtm)
include hb hfw hvw h1 h2

theorem ver_bound64 : (tabTxt (headV cs) (vs.map (rowV cs.length)) (widthsOf (headV cs :: vs.map (rowV cs.length)) (headV cs).length)).length ≤ 70368744177664 := by
  have hl : (headV cs).length = (bndV cs).length := by rw [headV_len, bndV_len]
  have hr : ∀ r, r ∈ vs.map (rowV cs.length) → leS r (bndV cs) := fun r hr => by
    obtain ⟨x, hx, rfl⟩ := List.mem_map.1 hr
    exact leS_rowV64 cs x (hvw x hx)
  have hs := bndV_sum cs
  have hbl := bndV_len cs
  rw [hl]
  have h := tab_len (headV cs) (vs.map (rowV cs.length)) (bndV cs) (leS_headV cs) hr (fun r h => by
    rcases List.mem_cons.1 h with rfl | h
    · exact hl
    · obtain ⟨x, _, rfl⟩ := List.mem_map.1 h
      rw [rowV_len, bndV_len])
  rw [List.length_map] at h
  refine Nat.le_trans h ?_
  have e : (bndV cs).sum + 3 * (bndV cs).length + 1 ≤ nmSum cs + 413 * cs.length + 400 := by omega
  have g : (bndV cs).sum + 3 * (bndV cs).length + 1 ≤ 145000000 := by omega
  by_cases hv : vs.length ≤ 45000
  · have g2 : vs.length + 2 ≤ 45002 := by omega
    exact Nat.le_trans (Nat.mul_le_mul g2 g) (by decide)
  · have g3 : nmSum cs + 413 * cs.length + 400 ≤ 131000000 := by omega
    have g2 : vs.length + 2 ≤ 349530 := by omega
    have key : (vs.length + 2) * ((bndV cs).sum + 3 * (bndV cs).length + 1) ≤ 349530 * 131000000 := Nat.mul_le_mul g2 (Nat.le_trans e g3)
    exact Nat.le_trans key (by decide)

theorem vers_shape (hn : ∀ c, c ∈ cs → NoLf c.name) : ∃ s, report_Versions (cs.map encC) (vs.map encW) = some s ∧ law55_lines s = some (((vs.length + 2 : Nat) : Int), true) := by
  have b := ver_bound64 cs fs vs rn rtm hb hfw hvw h1 h2
  refine ⟨_, versions_ok cs vs (by omega) (by omega) hvw _ rfl (by omega), ?_⟩
  rw [lines_ok _ (by omega) (tab_end _ _ _), tab_cnt _ _ _ (headV_no cs hn) (fun r hr => by
    obtain ⟨x, hx, rfl⟩ := List.mem_map.1 hr
    exact rowV_no _ x (hvw x hx)), List.length_map]

theorem res_shape (hn : ∀ c, c ∈ cs → NoLf c.name) : ∃ s, report_Result (cs.map encC) (fs.map encF) rn rtm = some s ∧ law55_lines s = some (((if cs.length = 0 then 1 else fs.length + 3 : Nat) : Int), true) := by
  by_cases hc : cs.length = 0
  · obtain rfl : cs = [] := List.length_eq_zero_iff.1 hc
    refine ⟨_, done_r64 _ rn rtm h1 h2, ?_⟩
    have := done_len rn rtm h1 h2
    rw [lines_ok _ (by omega) (done_end _ _), done_cnt]; rfl
  · obtain ⟨b1, b2⟩ := res_bound cs fs (by omega) hfw (fs.any timedF)
    refine ⟨_, result_ok cs fs rn rtm (by omega) (by omega) (by omega) hfw _ rfl b1, ?_⟩
    have hr : ∀ r, r ∈ fs.map (rowF (fs.any timedF) cs.length) → leS r (bndF (fs.any timedF) cs) := fun r hr => by
      obtain ⟨x, hx, rfl⟩ := List.mem_map.1 hr
      exact leS_row (fs.any timedF) cs x (hfw x hx)
    have hs := bndF_sum (fs.any timedF) cs
    have hbl := bndF_len (fs.any timedF) cs
    have hbl' : (bndF (fs.any timedF) cs).length ≤ cs.length + 1 := by rw [hbl]; split <;> omega
    have hl : (headF (fs.any timedF) cs).length = (bndF (fs.any timedF) cs).length := by rw [headF_len, bndF_len]
    have h := tab_len (headF (fs.any timedF) cs) (fs.map (rowF (fs.any timedF) cs.length)) (bndF (fs.any timedF) cs) (leS_head (fs.any timedF) cs) hr (fun r h => by
      rcases List.mem_cons.1 h with rfl | h
      · exact hl
      · obtain ⟨x, _, rfl⟩ := List.mem_map.1 h
        rw [rowF_len, bndF_len])
    rw [List.length_map] at h
    have g : (bndF (fs.any timedF) cs).sum + 3 * (bndF (fs.any timedF) cs).length + 1 ≤ 145000000 := by omega
    have g2 : fs.length + 2 ≤ 349530 := by omega
    have hT : (tabTxt (headF (fs.any timedF) cs) (fs.map (rowF (fs.any timedF) cs.length)) (widthsOf (headF (fs.any timedF) cs :: fs.map (rowF (fs.any timedF) cs.length)) (headF (fs.any timedF) cs).length)).length ≤ 50681850000000 := by
      rw [hl]
      exact Nat.le_trans h (Nat.le_trans (Nat.mul_le_mul g2 g) (by decide))
    have hle := res_len fs.length (tabTxt (headF (fs.any timedF) cs) (fs.map (rowF (fs.any timedF) cs.length)) (widthsOf (headF (fs.any timedF) cs :: fs.map (rowF (fs.any timedF) cs.length)) (headF (fs.any timedF) cs).length)) (by omega)
    rw [lines_ok _ (by omega) (res_end _ _), res_cnt, tab_cnt _ _ _ (headF_no _ cs hn) (fun r hr => by
      obtain ⟨x, hx, rfl⟩ := List.mem_map.1 hr
      exact rowF_no _ _ x (hfw x hx)), List.length_map, if_neg hc]

/-! The guard. -/
theorem nm_loop (V : List AV) (F : List AV) (T12 T13 : Int) (n : Nat) (hn : n < cs.length) : ∀ (k m : Nat), m + k = cs[n].name.length → NoLf (cs[n].name.take m) →
    ∃ y, Iter (law55_ReportShape_l1_step V ((n : Nat) : Int) T12 T13 ((cs[n].name.length : Nat) : Int)) (((m : Nat) : Int), cs.map encC, F, rn, rtm) = some y ∧
      (y.1 = true ∧ y.2.1.1 = true ∨ y.1 = false ∧ y.2.2 = (cs.map encC, F, rn, rtm) ∧ NoLf cs[n].name)
  | 0, m, hk, ht => by
    obtain rfl : m = cs[n].name.length := by omega
    rw [List.take_of_length_le (Nat.le_refl _)] at ht
    refine ⟨(false, (false, [], [], 0, 0), (cs.map encC, F, rn, rtm)), iter_end ?_, .inr ⟨rfl, rfl, ht⟩⟩
    unfold law55_ReportShape_l1_step
    simp only
    unfold law55_ReportShape_l1_t
    rw [decide_eq_false (by omega : ¬ ((cs[n].name.length : Nat) : Int) < ((cs[n].name.length : Nat) : Int))]
    rfl
  | k + 1, m, hk, ht => by
    have hm : m < cs[n].name.length := by omega
    have hnl := name_le cs cs[n] (List.getElem_mem hn)
    have d1 : ((m : Nat) : Int) < ((cs[n].name.length : Nat) : Int) := by omega
    have d2 : (0 : Int) ≤ ((m : Nat) : Int) := by omega
    have d3 : (0 : Int) ≤ ((n : Nat) : Int) := by omega
    have d4 : ((n : Nat) : Int) < ((cs.length : Nat) : Int) := by omega
    have gf : (cs.map encC).getD n .top = encC cs[n] := getD_map _ _ _ hn
    have sh : hasSh1 Sh.str ((encC cs[n]).cells.getD 0 .top) = true := rfl
    have c0 : ((encC cs[n]).cells.getD 0 .top).toStr = cs[n].name := rfl
    have gd : cs[n].name.getD m 0 = cs[n].name[m] := by simp [List.getD_eq_getElem?_getD, hm]
    have b : (((cs[n].name[m].toNat : Nat) : Int) == 10) = decide (cs[n].name[m] = 10) := by
      by_cases e : cs[n].name[m] = 10
      · rw [e]; rfl
      · have : cs[n].name[m].toNat ≠ 10 := fun h => e (by rw [← UInt8.ofNat_toNat (x := cs[n].name[m]), h]; rfl)
        simp [e]; omega
    have st : law55_ReportShape_l1_step V ((n : Nat) : Int) T12 T13 ((cs[n].name.length : Nat) : Int) (((m : Nat) : Int), cs.map encC, F, rn, rtm) =
        br (decide (cs[n].name[m] = 10)) (some (.inr (true, (true, cs.map encC, F, rn, rtm), ([], [], 0, 0)))) (some (.inl (((m + 1 : Nat) : Int), cs.map encC, F, rn, rtm))) := by
      unfold law55_ReportShape_l1_step
      simp only
      unfold law55_ReportShape_l1_t
      rw [Int.toNat_natCast, Int.toNat_natCast, gf, sh, c0, gd, b, List.length_map, decide_eq_true d1, decide_eq_true d2, decide_eq_true d3, decide_eq_true d4, decide_eq_true hn, wrap_nat (show m + 1 ≤ maxLen by unfold maxLen; omega)]
      rfl
    by_cases e : cs[n].name[m] = 10
    · rw [decide_eq_true e] at st
      exact ⟨_, iter_end st, .inl ⟨rfl, rfl⟩⟩
    · rw [decide_eq_false e] at st
      rw [iter_step st]
      refine nm_loop V F T12 T13 n hn k (m + 1) (by omega) ?_
      rw [take_snoc _ m hm]
      exact noLf_app ht fun h => e (List.mem_singleton.1 h).symm

theorem nms_loop (V : List AV) (F : List AV) : ∀ (k n : Nat), n + k = cs.length → (∀ c, c ∈ cs.take n → NoLf c.name) →
    ∃ y, Iter (law55_ReportShape_l0_step V ((cs.length : Nat) : Int)) (((n : Nat) : Int), cs.map encC, F, rn, rtm) = some y ∧
      (y.1 = true ∧ y.2.1.1 = true ∨ y.1 = false ∧ y.2.2 = (cs.map encC, F, rn, rtm) ∧ ∀ c, c ∈ cs → NoLf c.name)
  | 0, n, hk, ht => by
    obtain rfl : n = cs.length := by omega
    rw [List.take_of_length_le (Nat.le_refl _)] at ht
    refine ⟨(false, (false, [], [], 0, 0), (cs.map encC, F, rn, rtm)), iter_end ?_, .inr ⟨rfl, rfl, ht⟩⟩
    unfold law55_ReportShape_l0_step
    simp only
    unfold law55_ReportShape_l0_t
    rw [decide_eq_false (by omega : ¬ ((cs.length : Nat) : Int) < ((cs.length : Nat) : Int))]
    rfl
  | k + 1, n, hk, ht => by
    have hn : n < cs.length := by omega
    have d3 : (0 : Int) ≤ ((n : Nat) : Int) := by omega
    have d4 : ((n : Nat) : Int) < ((cs.length : Nat) : Int) := by omega
    have gf : (cs.map encC).getD n .top = encC cs[n] := getD_map _ _ _ hn
    have sh : hasSh1 Sh.str ((encC cs[n]).cells.getD 0 .top) = true := rfl
    have c0 : ((encC cs[n]).cells.getD 0 .top).toStr = cs[n].name := rfl
    obtain ⟨y, hy, hyy⟩ := nm_loop cs fs vs rn rtm hb hfw hvw h1 h2 V F ((cs.length : Nat) : Int) ((n : Nat) : Int) n hn cs[n].name.length 0 (by omega) (by rw [List.take_zero]; exact noLf_nil)
    have v9 : law55_ReportShape_l0_v9 V ((cs.length : Nat) : Int) ((n : Nat) : Int) (cs.map encC) F rn rtm = some y := by
      unfold law55_ReportShape_l0_v9; rw [Int.toNat_natCast, gf, c0]; exact hy
    have v8 : law55_ReportShape_l0_v8 V ((cs.length : Nat) : Int) ((n : Nat) : Int) (cs.map encC) F rn rtm = y := by unfold law55_ReportShape_l0_v8; rw [v9]; rfl
    have v6 : law55_ReportShape_l0_v6 V ((cs.length : Nat) : Int) ((n : Nat) : Int) (cs.map encC) F rn rtm = y.2.1 := by unfold law55_ReportShape_l0_v6 law55_ReportShape_l0_v7; rw [v8]
    have v5 : law55_ReportShape_l0_v5 V ((cs.length : Nat) : Int) ((n : Nat) : Int) (cs.map encC) F rn rtm = y.2.2 := by unfold law55_ReportShape_l0_v5 law55_ReportShape_l0_v7; rw [v8]
    have v4 : law55_ReportShape_l0_v4 V ((cs.length : Nat) : Int) ((n : Nat) : Int) (cs.map encC) F rn rtm = y.2.2.2 := by unfold law55_ReportShape_l0_v4; rw [v5]
    have v2 : law55_ReportShape_l0_v2 V ((cs.length : Nat) : Int) ((n : Nat) : Int) (cs.map encC) F rn rtm = y.2.2.2.2 := by unfold law55_ReportShape_l0_v2; rw [v4]
    rcases hyy with ⟨y1, y2⟩ | ⟨y1, y2, hno⟩
    · have st : ∃ z : List AV × List AV × Int × Int, law55_ReportShape_l0_step V ((cs.length : Nat) : Int) (((n : Nat) : Int), cs.map encC, F, rn, rtm) = some (.inr (true, (true, z), ([], [], 0, 0))) := by
        unfold law55_ReportShape_l0_step
        simp only
        unfold law55_ReportShape_l0_t
        rw [v9, v8, v6, Int.toNat_natCast, gf, sh, y1, y2, List.length_map, decide_eq_true d3, decide_eq_true d4, decide_eq_true hn]
        exact ⟨_, rfl⟩
      obtain ⟨z, st⟩ := st
      exact ⟨_, iter_end st, .inl ⟨rfl, rfl⟩⟩
    · have st : law55_ReportShape_l0_step V ((cs.length : Nat) : Int) (((n : Nat) : Int), cs.map encC, F, rn, rtm) = some (.inl (((n + 1 : Nat) : Int), cs.map encC, F, rn, rtm)) := by
        unfold law55_ReportShape_l0_step
        simp only
        unfold law55_ReportShape_l0_t
        rw [v9, v8, v5, v4, v2, Int.toNat_natCast, gf, sh, y1, y2, List.length_map, decide_eq_true d3, decide_eq_true d4, decide_eq_true hn, wrap_nat (show n + 1 ≤ maxLen by unfold maxLen; omega)]
        rfl
      rw [iter_step st]
      refine nms_loop V F k (n + 1) (by omega) fun c hc => ?_
      rw [take_snoc cs n hn] at hc
      rcases List.mem_append.1 hc with hc | hc
      · exact ht c hc
      · obtain rfl := List.mem_singleton.1 hc
        exact hno

set_option maxHeartbeats 1000000 in
/-- THE LAW ON SHAPES. -/
theorem law_shapes : law55_ReportShape (cs.map encC) (fs.map encF) rn rtm (vs.map encW) = some true := by
  obtain ⟨y, hy, hyy⟩ := nms_loop cs fs vs rn rtm hb hfw hvw h1 h2 (vs.map encW) (fs.map encF) cs.length 0 (by omega) (fun c hc => by rw [List.take_zero] at hc; cases hc)
  have v11 : law55_ReportShape_v11 (cs.map encC) (fs.map encF) rn rtm (vs.map encW) = some y := by
    unfold law55_ReportShape_v11; rw [List.length_map]; exact hy
  have v10 : law55_ReportShape_v10 (cs.map encC) (fs.map encF) rn rtm (vs.map encW) = y := by unfold law55_ReportShape_v10; rw [v11]; rfl
  have v9 : law55_ReportShape_v9 (cs.map encC) (fs.map encF) rn rtm (vs.map encW) = y.2 := by unfold law55_ReportShape_v9; rw [v10]
  unfold law55_ReportShape law55_ReportShape_t
  rw [v11, v10, v9]
  rcases hyy with ⟨y1, y2⟩ | ⟨y1, y2, hno⟩
  · rw [y1, y2]; rfl
  · obtain ⟨s, r1, r2⟩ := res_shape cs fs vs rn rtm hb hfw hvw h1 h2 hno
    obtain ⟨u, q1, q2⟩ := vers_shape cs fs vs rn rtm hb hfw hvw h1 h2 hno
    have v8 : law55_ReportShape_v8 (cs.map encC) (fs.map encF) rn rtm (vs.map encW) = (cs.map encC, fs.map encF, rn, rtm) := by unfold law55_ReportShape_v8; rw [v9, y2]
    have v4 : law55_ReportShape_v4 (cs.map encC) (fs.map encF) rn rtm (vs.map encW) = cs.map encC := by unfold law55_ReportShape_v4; rw [v8]
    have v7 : law55_ReportShape_v7 (cs.map encC) (fs.map encF) rn rtm (vs.map encW) = (fs.map encF, rn, rtm) := by unfold law55_ReportShape_v7; rw [v8]
    have v5 : law55_ReportShape_v5 (cs.map encC) (fs.map encF) rn rtm (vs.map encW) = fs.map encF := by unfold law55_ReportShape_v5; rw [v7]
    have v6 : law55_ReportShape_v6 (cs.map encC) (fs.map encF) rn rtm (vs.map encW) = (rn, rtm) := by unfold law55_ReportShape_v6; rw [v7]
    have v3 : law55_ReportShape_v3 (cs.map encC) (fs.map encF) rn rtm (vs.map encW) = some s := by unfold law55_ReportShape_v3; rw [v4, v5, v6]; exact r1
    have v2 : law55_ReportShape_v2 (cs.map encC) (fs.map encF) rn rtm (vs.map encW) = some (((if cs.length = 0 then 1 else fs.length + 3 : Nat) : Int), true) := by unfold law55_ReportShape_v2; rw [v3]; exact r2
    have v1 : law55_ReportShape_v1 (cs.map encC) (fs.map encF) rn rtm (vs.map encW) = (((if cs.length = 0 then 1 else fs.length + 3 : Nat) : Int), true) := by unfold law55_ReportShape_v1; rw [v2]; rfl
    have v0 : law55_ReportShape_v0 (cs.map encC) (fs.map encF) rn rtm (vs.map encW) = ((if cs.length = 0 then 1 else fs.length + 3 : Nat) : Int) := by unfold law55_ReportShape_v0; rw [v1]
    have w2 : IntKind.i64.wrap (((vs.length : Nat) : Int) + 2) = ((vs.length + 2 : Nat) : Int) := by rw [wrap_i64 (by omega) (by omega)]; omega
    have w3 : IntKind.i64.wrap (((fs.length : Nat) : Int) + 3) = ((fs.length + 3 : Nat) : Int) := by rw [wrap_i64 (by omega) (by omega)]; omega
    have g2 : Option.getD (some u) [] = u := rfl
    rw [y1, v0, v1, v2, v3, v4, v5, q1, g2, q2, List.length_map, List.length_map, List.length_map, w2, w3]
    by_cases hc : cs.length = 0
    · rw [if_pos hc, hc]
      simp only [Option.isSome_some, Option.getD_some, Bool.not_true, brF, br_tt, br_ff, beq_self_eq_true]
      rfl
    · have e1 : (((cs.length : Nat) : Int) == 0) = false := by simpa using hc
      have e2 : decide (((cs.length : Nat) : Int) > 0) = true := decide_eq_true (by omega)
      have e3 : (((fs.length + 3 : Nat) : Int) != ((fs.length + 3 : Nat) : Int)) = false := by simp
      rw [if_neg hc, e1, e2, e3]
      simp only [Option.isSome_some, Option.getD_some, Bool.not_true, brF, br_tt, br_ff, beq_self_eq_true]
end

/-- The law on shapes, as the card asks for it. -/
theorem law_shp (a : Res) (b : List Ver) (w : a.wf) (wb : b.length ≤ maxLen ∧ ∀ y, y ∈ b → y.wf) (hbulk : (AV.agg [.list 3 (a.c.map encC), .list 3 (a.fs.map encF), .int .i64 a.n, .int .i64 a.tm]).wt + (AV.list 9 (b.map encW)).wt ≤ 1048576) : law55_ReportShape (a.c.map encC) (a.fs.map encF) a.n a.tm (b.map encW) = some true := by
  have h1 := wt_cols a.c
  have h2 := wt_facts a.fs
  have h3 := wt_vers b
  simp only [AV.wt, AV.wts] at hbulk
  exact law_shapes a.c a.fs b a.n a.tm (by omega) w.2.1.2 wb.2 w.2.2.1 w.2.2.2
end Go.Sim.M
