/- Versions as tables: the reference as a whole, the law. -/
import Derived.Test.YtpnibjljhfgjaaaGreatDoorPlnH
set_option linter.unusedVariables false
set_option linter.unusedSectionVars false
set_option linter.unusedSimpArgs false
set_option maxRecDepth 100000
namespace Go.Sim.M
open Go.RowKit Go.Lib

section
variable (cs : List Col) (vs : List Ver) (hcs : cs.length ≤ 1048576) (hvs : vs.length ≤ 1073741000) (hvw : ∀ x, x ∈ vs → x.wf) (hvt : ∀ x, x ∈ vs → TameV x)
include hcs hvs hvw hvt

theorem rversions_ok (T : Sx) (hT : T = tabTxt (headV cs) (vs.map (rowV cs.length)) (widthsOf (headV cs :: vs.map (rowV cs.length)) (headV cs).length)) (hTl : T.length ≤ 70368744177664)
    (hw : ∀ w, w ∈ widthsOf (headV cs :: vs.map (rowV cs.length)) (headV cs).length → w ≤ 70368744177664) :
    ref55_Versions (cs.map encC) (vs.map encW) = some T := by
  have hlen := headV_len cs
  have d1 : 0 + cs.length ≤ cs.length := by omega
  have d2 : (1 + cs.length) * 16 ≤ 140737488355328 := by omega
  have d3 : 1 + cs.length ≤ 4611686018427387904 := by omega
  have d4 : (1 + cs.length == 1 + cs.length) = true := by simp
  have d5 : (1 + cs.length + 4) * 16 ≤ 140737488355328 := by omega
  have d6 : 1 + cs.length + 4 ≤ 4611686018427387904 := by omega
  have d7 : 0 + (1 + cs.length + 4) ≤ cs.length + 5 := by omega
  have d8 : 0 + vs.length ≤ vs.length := by omega
  have hn := fnames_ok cs (by omega)
  have v10 : ref55_Versions_v10 (cs.map encC) = encS (namesOf cs) := by
    unfold ref55_Versions_v10; rw [hn]; exact take_encS _ _ (namesOf_len cs).symm
  have v8 : ref55_Versions_v8 (cs.map encC) = 1 + cs.length := by unfold ref55_Versions_v8; rw [v10, encS_len, namesOf_len]
  have v7 : ref55_Versions_v7 (cs.map encC) = 1 + cs.length + 4 := by unfold ref55_Versions_v7; rw [v8]
  have v9 : ref55_Versions_v9 (cs.map encC) = encS ([[105, 100]] ++ namesOf cs) := by unfold ref55_Versions_v9; rw [v10, encS_app]; rfl
  have eh : encS ([[105, 100]] ++ namesOf cs) ++ [AV.str [118, 97, 108, 105, 100], AV.str [115, 121, 115, 116, 101, 109], AV.str [98, 121], AV.str [117, 110, 116, 105, 108]] = encS (headV cs) := by
    unfold headV; rw [encS_app ([[105, 100]] ++ namesOf cs)]; rfl
  have l9 : (encS ([[105, 100]] ++ namesOf cs)).length = 1 + cs.length := by rw [encS_len, List.length_append, namesOf_len]; rfl
  have hloop := rver_loop cs vs hcs hvs hvw hvt (1 + cs.length + 4) (encS (headV cs)) vs.length 0 (by omega)
  rw [List.take_zero] at hloop
  have v6 : ref55_Versions_v6 (cs.map encC) (vs.map encW) = some (vs.length, encS (headV cs), encT (vs.map (rowV cs.length))) := by
    unfold ref55_Versions_v6; rw [v7, v9, eh]; exact hloop
  have v5 : ref55_Versions_v5 (cs.map encC) (vs.map encW) = (vs.length, encS (headV cs), encT (vs.map (rowV cs.length))) := by unfold ref55_Versions_v5; rw [v6]; rfl
  have v4 : ref55_Versions_v4 (cs.map encC) (vs.map encW) = vs.length := by unfold ref55_Versions_v4; rw [v5]
  have v3 : ref55_Versions_v3 (cs.map encC) (vs.map encW) = (encS (headV cs), encT (vs.map (rowV cs.length))) := by unfold ref55_Versions_v3; rw [v5]
  have v2 : ref55_Versions_v2 (cs.map encC) (vs.map encW) = encS (headV cs) := by unfold ref55_Versions_v2; rw [v3]
  have v1 : ref55_Versions_v1 (cs.map encC) (vs.map encW) = encT (vs.map (rowV cs.length)) := by unfold ref55_Versions_v1; rw [v3]
  have htab : ref55_table (encS (headV cs)) (encT (vs.map (rowV cs.length))) = some T := by
    rw [hT]
    rw [hT] at hTl
    have hr : ∀ r, r ∈ vs.map (rowV cs.length) → r.length = (headV cs).length := fun r hr => by
      obtain ⟨x, _, rfl⟩ := List.mem_map.1 hr
      rw [rowV_len, headV_len]
    refine rtable_ok _ _ (headV cs).length (by omega) (by omega) rfl hr (by rw [List.length_map]; omega) _ rfl ?_ hw hTl
    exact fold_len _ _ _ (fun r h => by
      rcases List.mem_cons.1 h with rfl | h
      · rfl
      · exact hr r h) (by simp)
  have v0 : ref55_Versions_v0 (cs.map encC) (vs.map encW) = some T := by
    unfold ref55_Versions_v0; rw [v1, v2, v4, v7, take_encS _ _ (by omega), take_encT _ _ (by simp)]; exact htab
  unfold ref55_Versions ref55_Versions_t
  rw [hn, v0, v1, v2, v4, v6, v7, v8, v9, l9, encS_len, hlen, encT_len, List.length_map]
  simp only [Option.getD_some, Option.isSome_some, br_tt, encS_len, namesOf_len]
  rw [decide_eq_true d1, decide_eq_true d2, decide_eq_true d3, d4, decide_eq_true d5, decide_eq_true d6, decide_eq_true d7, decide_eq_true d8]
  rfl
end

/-! Sizes. -/
def bndV (cs : List Col) : List Nat := [60] ++ (cs.map fun c => c.name.length + 410) ++ [60, 60, 60, 60]
theorem bndV_len (cs : List Col) : (bndV cs).length = cs.length + 5 := by simp [bndV]
theorem bndV_sum (cs : List Col) : (bndV cs).sum ≤ nmSum cs + 410 * cs.length + 300 := by
  unfold bndV; rw [List.sum_append, List.sum_append, bnd_sum]; simp; omega
theorem leS_headV (cs : List Col) : leS (headV cs) (bndV cs) := by
  unfold headV bndV
  exact leS_append _ _ _ _ (leS_append _ _ _ _ ⟨by decide, trivial⟩ (leS_names cs)) ⟨by decide, by decide, by decide, by decide, trivial⟩
theorem leS_rowV (cs : List Col) (x : Ver) (hx : x.wf) (ht : TameV x) : leS (rowV cs.length x) (bndV cs) := by
  obtain ⟨⟨t1, t2⟩, ⟨t3, t4⟩, t5, t6⟩ := ht
  have i1 := itoa_len' x.id (by omega) (by omega)
  have i2 := itoa_len' x.by' (by omega) (by omega)
  have i3 := itoa_len' x.un (by omega) (by omega)
  unfold rowV bndV
  refine leS_append _ _ _ _ (leS_append _ _ _ _ ⟨by omega, trivial⟩ (leS_vals cs x.row hx.2.1)) ⟨?_, ?_, by omega, ?_, trivial⟩
  · have := pTxt_len x.f x.t; omega
  · have := pTxt_len x.sf x.st; omega
  · split
    · decide
    · omega
theorem wt_vers : ∀ vs : List Ver, 3 * vs.length ≤ AV.wts (vs.map encW)
  | [] => by simp
  | f :: fs => by
    have := wt_vers fs
    have e : 3 ≤ AV.wt (encW f) := by simp only [encW, AV.wt, AV.wts]; omega
    simp only [List.map_cons, AV.wts, List.length_cons]; omega

def fct0 (x : Ver) : Fct := ⟨x.row, 0, 0⟩

theorem tame3 (x : Ver) : ∃ b, law55_tame [AV.int .i64 x.id, AV.int .i64 x.by', AV.int .i64 x.un] = some b ∧ (b = true → TameV x) := by
  obtain ⟨b, h1, h2⟩ := tame_ok [x.id, x.by', x.un] (by simp)
  exact ⟨b, h1, fun h => ⟨h2 h x.id (by simp), h2 h x.by' (by simp), h2 h x.un (by simp)⟩⟩

theorem take_snoc {α : Type} (l : List α) (n : Nat) (h : n < l.length) : l.take (n + 1) = l.take n ++ [l[n]] := by
  rw [List.take_add_one, List.getElem?_eq_getElem h]; rfl

section
variable (cs : List Col) (vs : List Ver) (hb : nmSum cs + 3 * cs.length + 3 * vs.length ≤ 1048576) (hvw : ∀ x, x ∈ vs → x.wf)
include hb hvw

theorem ver_bound (hvt : ∀ x, x ∈ vs → TameV x) : (tabTxt (headV cs) (vs.map (rowV cs.length)) (widthsOf (headV cs :: vs.map (rowV cs.length)) (headV cs).length)).length ≤ 70368744177664 ∧
    ∀ w, w ∈ widthsOf (headV cs :: vs.map (rowV cs.length)) (headV cs).length → w ≤ 70368744177664 := by
  have hl : (headV cs).length = (bndV cs).length := by rw [headV_len, bndV_len]
  have hr : ∀ r, r ∈ vs.map (rowV cs.length) → leS r (bndV cs) := fun r hr => by
    obtain ⟨x, hx, rfl⟩ := List.mem_map.1 hr
    exact leS_rowV cs x (hvw x hx) (hvt x hx)
  have hs := bndV_sum cs
  have hbl := bndV_len cs
  rw [hl]
  refine ⟨?_, fun w h => ?_⟩
  · have h := tab_len (headV cs) (vs.map (rowV cs.length)) (bndV cs) (leS_headV cs) hr (fun r h => by
      rcases List.mem_cons.1 h with rfl | h
      · exact hl
      · obtain ⟨x, _, rfl⟩ := List.mem_map.1 h
        rw [rowV_len, bndV_len])
    rw [List.length_map] at h
    refine Nat.le_trans h ?_
    have g : (bndV cs).sum + 3 * (bndV cs).length + 1 ≤ 150000000 := by omega
    have g2 : vs.length + 2 ≤ 349530 := by omega
    exact Nat.le_trans (Nat.mul_le_mul g2 g) (by decide)
  · have := tab_widths (headV cs) (vs.map (rowV cs.length)) (bndV cs) (leS_headV cs) hr w h
    omega

theorem vers_both (hvt : ∀ x, x ∈ vs → TameV x) : ∃ s, report_Versions (cs.map encC) (vs.map encW) = some s ∧ ref55_Versions (cs.map encC) (vs.map encW) = some s := by
  obtain ⟨b1, b2⟩ := ver_bound cs vs hb hvw hvt
  exact ⟨_, versions_ok cs vs (by omega) (by omega) hvw _ rfl b1, rversions_ok cs vs (by omega) (by omega) hvw hvt _ rfl b1 b2⟩

set_option maxHeartbeats 1000000 in
theorem lver_loop (L : List AV) : ∀ (k n : Nat), n + k = vs.length → (∀ x, x ∈ vs.take n → TameV x) →
    ∃ y, Iter (law55_ReportVersions_l0_step L (vs.map encW) ((vs.length : Nat) : Int)) (((n : Nat) : Int), L, 0, 0, n, ((vs.take n).map fct0).map encF) = some y ∧
      (y.1 = true ∧ y.2.1.1 = true ∨ y.1 = false ∧ y.2.2 = (L, vs.length, 0, 0, (vs.map fct0).map encF) ∧ ∀ x, x ∈ vs → TameV x)
  | 0, n, hk, ht => by
    obtain rfl : n = vs.length := by omega
    rw [List.take_of_length_le (Nat.le_refl _)] at ht ⊢
    refine ⟨_, iter_end (r := (false, (false, [], 0, 0, 0, []), (L, vs.length, 0, 0, (vs.map fct0).map encF))) ?_, .inr ⟨rfl, rfl, ht⟩⟩
    unfold law55_ReportVersions_l0_step
    simp only
    unfold law55_ReportVersions_l0_t
    rw [decide_eq_false (by omega : ¬ ((vs.length : Nat) : Int) < ((vs.length : Nat) : Int))]
    rfl
  | k + 1, n, hk, ht => by
    have h1 : n < vs.length := by omega
    have d1 : ((n : Nat) : Int) < ((vs.length : Nat) : Int) := by omega
    have d2 : (0 : Int) ≤ ((n : Nat) : Int) := by omega
    have d3 : (n + 1) * 40 ≤ 140737488355328 := by omega
    have d4 : n + 1 ≤ 4611686018427387904 := by omega
    have d5 : (n == n) = true := by simp
    have d12 : n + 1 ≤ maxLen := by unfold maxLen; omega
    have gf : (vs.map encW).getD n .top = encW vs[n] := getD_map _ _ _ h1
    have c0 : ((encW vs[n]).cells.getD 0 .top).toInt = vs[n].id := rfl
    have c2 : ((encW vs[n]).cells.getD 2 .top).toList = vs[n].row.map encV := rfl
    have c7 : ((encW vs[n]).cells.getD 7 .top).toInt = vs[n].by' := rfl
    have c8 : ((encW vs[n]).cells.getD 8 .top).toInt = vs[n].un := rfl
    have s0 : hasSh1 (Sh.int IntKind.i64) ((encW vs[n]).cells.getD 0 .top) = true := rfl
    have s2 : hasSh1 (Sh.list 3) ((encW vs[n]).cells.getD 2 .top) = true := rfl
    have s7 : hasSh1 (Sh.int IntKind.i64) ((encW vs[n]).cells.getD 7 .top) = true := rfl
    have s8 : hasSh1 (Sh.int IntKind.i64) ((encW vs[n]).cells.getD 8 .top) = true := rfl
    obtain ⟨b, e1, e2⟩ := tame3 vs[n]
    have ll : (((vs.take n).map fct0).map encF).length = n := by rw [List.length_map, List.length_map, List.length_take]; omega
    have esn : ((vs.take n).map fct0).map encF ++ [AV.agg [AV.list 3 (vs[n].row.map encV), AV.int .i64 0, AV.int .i64 0]] = ((vs.take (n + 1)).map fct0).map encF := by
      rw [take_snoc vs n h1, List.map_append, List.map_append]; rfl
    have v0 : law55_ReportVersions_l0_v0 (vs.map encW) ((n : Nat) : Int) = true := by
      unfold law55_ReportVersions_l0_v0; rw [List.length_map, decide_eq_true d1, decide_eq_true d2]; rfl
    have v1 : law55_ReportVersions_l0_v1 (vs.map encW) ((n : Nat) : Int) = some b := by
      unfold law55_ReportVersions_l0_v1; rw [Int.toNat_natCast, gf, c0, c7, c8]; exact e1
    have st : law55_ReportVersions_l0_step L (vs.map encW) ((vs.length : Nat) : Int) (((n : Nat) : Int), L, 0, 0, n, ((vs.take n).map fct0).map encF) =
        br (!b) (some (.inr (true, (true, L, n + 1, 0, 0, ((vs.take (n + 1)).map fct0).map encF), ([], 0, 0, 0, [])))) (some (.inl (((n + 1 : Nat) : Int), L, 0, 0, n + 1, ((vs.take (n + 1)).map fct0).map encF))) := by
      unfold law55_ReportVersions_l0_step
      simp only
      unfold law55_ReportVersions_l0_t
      rw [v0, v1, Int.toNat_natCast, gf, s0, s2, s7, s8, c2, List.length_map, ll, esn, decide_eq_true d1, decide_eq_true h1, decide_eq_true d3, decide_eq_true d4, d5, wrap_nat d12]
      rfl
    cases b with
    | false => exact ⟨_, iter_end st, .inl ⟨rfl, rfl⟩⟩
    | true =>
      rw [iter_step st]
      refine lver_loop L k (n + 1) (by omega) fun x hx => ?_
      rw [take_snoc vs n h1] at hx
      rcases List.mem_append.1 hx with hx | hx
      · exact ht x hx
      · obtain rfl := List.mem_singleton.1 hx
        exact e2 rfl

/-- THE LAW ON VERSIONS. -/
theorem law_versions : law55_ReportVersions (cs.map encC) (vs.map encW) = some true := by
  by_cases hv : vs.length = 0
  · obtain rfl : vs = [] := List.length_eq_zero_iff.1 hv
    obtain ⟨t, ht⟩ := ref_tame cs [] 0 0 (by omega) (by simp)
    have ht : ref55_Tame (cs.map encC) [] 0 0 = some t := ht
    obtain ⟨s, e1, e2⟩ := vers_both cs [] hb hvw (fun x h => by cases h)
    have e1 : report_Versions (cs.map encC) [] = some s := e1
    have e2 : ref55_Versions (cs.map encC) [] = some s := e2
    unfold law55_ReportVersions law55_ReportVersions_t
    rw [List.map_nil, ht, e1, e2]
    have b0 : law55_ReportVersions_v10 [] = false := rfl
    rw [b0]
    cases t with
    | false => rfl
    | true => simp only [Option.isSome_some, Option.getD_some, Bool.not_true, brF, br_tt, br_ff, beq_self_eq_true]
  · have h1 : 0 < vs.length := by omega
    have d1 : (0 : Int) < ((vs.length : Nat) : Int) := by omega
    obtain ⟨b, e1, e2⟩ := tame3 vs[0]
    have gf : (vs.map encW).getD 0 .top = encW vs[0] := getD_map _ _ _ h1
    have c0 : ((encW vs[0]).cells.getD 0 .top).toInt = vs[0].id := rfl
    have c2 : ((encW vs[0]).cells.getD 2 .top).toList = vs[0].row.map encV := rfl
    have c7 : ((encW vs[0]).cells.getD 7 .top).toInt = vs[0].by' := rfl
    have c8 : ((encW vs[0]).cells.getD 8 .top).toInt = vs[0].un := rfl
    have s0 : hasSh1 (Sh.int IntKind.i64) ((encW vs[0]).cells.getD 0 .top) = true := rfl
    have s2 : hasSh1 (Sh.list 3) ((encW vs[0]).cells.getD 2 .top) = true := rfl
    have s7 : hasSh1 (Sh.int IntKind.i64) ((encW vs[0]).cells.getD 7 .top) = true := rfl
    have s8 : hasSh1 (Sh.int IntKind.i64) ((encW vs[0]).cells.getD 8 .top) = true := rfl
    have v10 : law55_ReportVersions_v10 (vs.map encW) = true := by unfold law55_ReportVersions_v10; rw [List.length_map, decide_eq_true d1]
    have v12 : law55_ReportVersions_v12 (vs.map encW) = true := by unfold law55_ReportVersions_v12; rw [List.length_map, decide_eq_true h1]
    have v11 : law55_ReportVersions_v11 (vs.map encW) = some b := by unfold law55_ReportVersions_v11; rw [gf, c0, c7, c8]; exact e1
    unfold law55_ReportVersions law55_ReportVersions_t
    rw [v10, v11, v12, gf, s0, s2, s7, s8]
    cases b with
    | false => rfl
    | true =>
      have tk : vs.take 1 = [vs[0]] := by
        have := take_snoc vs 0 h1; rw [List.take_zero] at this; exact this
      obtain ⟨y, hy, hyy⟩ := lver_loop cs vs hb hvw (cs.map encC) (vs.length - 1) 1 (by omega) (fun x hx => by
        rw [tk] at hx; obtain rfl := List.mem_singleton.1 hx; exact e2 rfl)
      have v9 : law55_ReportVersions_v9 (cs.map encC) (vs.map encW) = some y := by
        unfold law55_ReportVersions_v9; rw [gf, c2, List.length_map]
        rw [tk] at hy; exact hy
      have v8 : law55_ReportVersions_v8 (cs.map encC) (vs.map encW) = y := by unfold law55_ReportVersions_v8; rw [v9]; rfl
      rcases hyy with ⟨y1, y2⟩ | ⟨y1, y2, hvt⟩
      · have v7 : (law55_ReportVersions_v7 (cs.map encC) (vs.map encW)).fst.fst = true := by unfold law55_ReportVersions_v7; rw [v8, y2]
        rw [v9, v8, v7, y1]
        rfl
      · obtain ⟨t, ht⟩ := ref_tame cs (vs.map fct0) 0 0 (by omega) (by rw [List.length_map]; omega)
        obtain ⟨s, r1, r2⟩ := vers_both cs vs hb hvw hvt
        have v6 : law55_ReportVersions_v6 (cs.map encC) (vs.map encW) = (cs.map encC, vs.length, 0, 0, (vs.map fct0).map encF) := by unfold law55_ReportVersions_v6 law55_ReportVersions_v7; rw [v8, y2]
        have v3 : law55_ReportVersions_v3 (cs.map encC) (vs.map encW) = vs.length := by unfold law55_ReportVersions_v3 law55_ReportVersions_v5; rw [v6]
        have v4 : law55_ReportVersions_v4 (cs.map encC) (vs.map encW) = (0, 0, (vs.map fct0).map encF) := by unfold law55_ReportVersions_v4 law55_ReportVersions_v5; rw [v6]
        have v2 : law55_ReportVersions_v2 (cs.map encC) (vs.map encW) = (0, (vs.map fct0).map encF) := by unfold law55_ReportVersions_v2; rw [v4]
        have v1 : law55_ReportVersions_v1 (cs.map encC) (vs.map encW) = (vs.map fct0).map encF := by unfold law55_ReportVersions_v1; rw [v2]
        have v0 : law55_ReportVersions_v0 (cs.map encC) (vs.map encW) = some t := by
          unfold law55_ReportVersions_v0; rw [v1, v2, v3, v4, v6, List.drop_zero, List.take_of_length_le (by simp)]; exact ht
        have d8 : 0 + vs.length ≤ vs.length := by omega
        rw [v9, v8, v0, v1, v3, y1, r1, r2, List.length_map, List.length_map, decide_eq_true d8]
        cases t with
        | false => rfl
        | true => simp only [Option.isSome_some, Option.getD_some, Bool.not_true, brF, br_tt, br_ff, beq_self_eq_true, Bool.and_true, Bool.true_and]
end

/-- The law on versions, as the card asks for it. -/
theorem law_ver (a : List Col) (b : List Ver) (wa : a.length ≤ maxLen ∧ ∀ y, y ∈ a → y.wf) (wb : b.length ≤ maxLen ∧ ∀ y, y ∈ b → y.wf) (hbulk : (AV.list 3 (a.map encC)).wt + (AV.list 9 (b.map encW)).wt ≤ 1048576) : law55_ReportVersions (a.map encC) (b.map encW) = some true := by
  have h1 := wt_cols a
  have h2 := wt_vers b
  simp only [AV.wt] at hbulk
  exact law_versions a b (by omega) wb.2
end Go.Sim.M
