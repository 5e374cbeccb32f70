/- Charts: what report.Chart writes, and what the reference writes. -/
import Derived.Test.YtpnibjljhfgjaaaDoorSwP
import Derived.Test.YtpnibjljhfgjaaaDoorKC2
set_option linter.unusedVariables false
set_option linter.unusedSectionVars false
set_option linter.unusedSimpArgs false
set_option maxRecDepth 100000
namespace Go.Sim.M
open Go.RowKit Go.Lib

theorem rvalid_eq (p : Per) : ref01_Valid p.1 p.2 = pv p := by
  unfold ref01_Valid pv
  rw [br_if, br_if]
  by_cases h1 : 0 ≤ p.1 <;> by_cases h2 : p.1 < p.2 <;> simp [h1, h2]
open Classical in
noncomputable def markB (l : List Per) (p : Per) : UInt8 := if ∀ t, hasP p t = true → inL l t = true then 35 else if ∃ t, hasP p t = true ∧ inL l t = true then 43 else 46
/-- The i-th of m parts of a period. -/
def partP (d : Per) (m : Nat) (x : Int) : Int := d.1 + (x * (d.2 - d.1)) / (m : Int)
def prt (d : Per) (m i : Nat) : Per := (partP d m i, partP d m ((i : Int) + 1))

section
variable (d : Per) (hd : pv d = true) (m : Nat) (hm1 : 1 ≤ m) (hm2 : m ≤ 200) (hm3 : (m : Int) ≤ d.2 - d.1)
include hd hm1 hm2 hm3
theorem part_expr (x : Int) (hx : 0 ≤ x) (hx2 : x ≤ m) : IntKind.i64.wrap (d.1 + IntKind.i64.wrap ((IntKind.i64.wrap (x * (d.2 - d.1))).tdiv (m : Int))) = partP d m x ∧ 0 ≤ (x * (d.2 - d.1)) / (m : Int) ∧ (x * (d.2 - d.1)) / (m : Int) ≤ d.2 - d.1 := by
  have hp := pv_iff.1 hd
  have h0 : 0 ≤ x * (d.2 - d.1) := Int.mul_nonneg hx (by omega)
  have h1 : x * (d.2 - d.1) ≤ 200 * 1099511627776 := Int.mul_le_mul (by omega) (by omega) (by omega) (by omega)
  have h2 : x * (d.2 - d.1) ≤ (d.2 - d.1) * (m : Int) := by
    rw [Int.mul_comm (d.2 - d.1)]; exact Int.mul_le_mul_of_nonneg_right hx2 (by omega)
  have h3 : 0 ≤ (x * (d.2 - d.1)) / (m : Int) := Int.ediv_nonneg h0 (by omega)
  have h4 : (x * (d.2 - d.1)) / (m : Int) ≤ d.2 - d.1 := by
    have := Int.ediv_le_ediv (by omega : (0 : Int) < (m : Int)) h2
    rwa [Int.mul_ediv_cancel _ (by omega)] at this
  refine ⟨?_, h3, h4⟩
  have e1 : IntKind.i64.wrap (x * (d.2 - d.1)) = x * (d.2 - d.1) := wrap_i64 (by omega) (by omega)
  have e2 : (x * (d.2 - d.1)).tdiv (m : Int) = (x * (d.2 - d.1)) / (m : Int) := Int.tdiv_eq_ediv_of_nonneg h0
  have e3 : IntKind.i64.wrap ((x * (d.2 - d.1)) / (m : Int)) = (x * (d.2 - d.1)) / (m : Int) := wrap_i64 (by omega) (by omega)
  have e4 : IntKind.i64.wrap (d.1 + (x * (d.2 - d.1)) / (m : Int)) = d.1 + (x * (d.2 - d.1)) / (m : Int) := wrap_i64 (by omega) (by omega)
  rw [e1, e2, e3, e4]
  rfl
theorem prt_pv (i : Nat) (hi : i < m) : pv (prt d m i) = true := by
  have hp := pv_iff.1 hd
  obtain ⟨_, a1, a2⟩ := part_expr d hd m hm1 hm2 hm3 (i : Int) (by omega) (by omega)
  obtain ⟨_, b1, b2⟩ := part_expr d hd m hm1 hm2 hm3 ((i : Int) + 1) (by omega) (by omega)
  have h : ((i : Int) * (d.2 - d.1)) / (m : Int) + 1 ≤ (((i : Int) + 1) * (d.2 - d.1)) / (m : Int) := by
    have := Int.add_mul_ediv_right ((i : Int) * (d.2 - d.1)) 1 (by omega : (m : Int) ≠ 0)
    rw [← this]
    exact Int.ediv_le_ediv (by omega) (by rw [Int.add_mul]; omega)
  refine pv_iff.2 ⟨?_, ?_, ?_⟩
  · show 0 ≤ d.1 + _; omega
  · show d.1 + _ < d.1 + _; omega
  · show d.1 + _ ≤ _; omega
end

theorem rep_mark (l : List Per) (hl : l.length ≤ 1073741824) (p : Per) (hp : pv p = true) : ∃ (r : List Per) (c : Bool), span_Intersect (l.map encP) [encP p] = some (r.map encP) ∧ span_Covers (l.map encP) [encP p] = some c ∧
    (((r.length : Nat) : Int) == 0) = decide (r = []) ∧ markB l p = if r = [] then 46 else if c = true then 35 else 43 := by
  obtain ⟨r, h1, h2, h3⟩ := intersect_ok l [p] hl (by simp)
  obtain ⟨c, g1, g2⟩ := covers_ok l [p] hl (by simp)
  have hone : ∀ t, inL [p] t = hasP p t := fun t => by rw [inL_cons, inL_nil, Bool.or_false]
  refine ⟨r, c, h1, g1, ?_, ?_⟩
  · cases r with
    | nil => rfl
    | cons x r => simp; omega
  have e1 : r = [] ↔ ¬ ∃ t, hasP p t = true ∧ inL l t = true := by
    constructor
    · rintro rfl ⟨t, a, b⟩
      have := h3 t
      rw [inL_nil, hone, a, b] at this; cases this
    · intro h
      cases r with
      | nil => rfl
      | cons q r =>
        have hq := h2.1 q (List.mem_cons_self ..)
        have h4 : inL (q :: r) q.1 = true := inL_iff.2 ⟨q, List.mem_cons_self .., hq, Int.le_refl _, (pv_iff.1 hq).2.1⟩
        rw [h3, hone] at h4
        simp only [Bool.and_eq_true] at h4
        exact absurd ⟨_, h4.2, h4.1⟩ h
  have e2 : c = true ↔ ∀ t, hasP p t = true → inL l t = true := by
    rw [g2]
    exact forall_congr' fun t => by rw [hone]
  have ap := pv_iff.1 hp
  unfold markB
  by_cases hr : r = []
  · rw [if_pos hr, if_neg, if_neg (e1.1 hr)]
    intro h
    exact e1.1 hr ⟨p.1, hasP_iff.2 ⟨hp, Int.le_refl _, ap.2.1⟩, h _ (hasP_iff.2 ⟨hp, Int.le_refl _, ap.2.1⟩)⟩
  · have hex : ∃ t, hasP p t = true ∧ inL l t = true := by
      rcases Classical.em (∃ t, hasP p t = true ∧ inL l t = true) with h | h
      · exact h
      · exact absurd (e1.2 h) hr
    rw [if_neg hr]
    by_cases hc : c = true
    · rw [if_pos (e2.1 hc), if_pos hc]
    · rw [if_neg (fun h => hc (e2.2 h)), if_pos hex, if_neg hc]

/-- The marks of the first i parts. -/
noncomputable def mks (l : List Per) (d : Per) (m i : Nat) : List UInt8 := (List.range i).map fun k => markB l (prt d m k)
theorem mks_succ (l : List Per) (d : Per) (m i : Nat) : mks l d m (i + 1) = mks l d m i ++ [markB l (prt d m i)] := by
  unfold mks; rw [List.range_succ, List.map_append]; rfl
theorem mks_len (l : List Per) (d : Per) (m i : Nat) : (mks l d m i).length = i := by simp [mks]

theorem wbyte (c : UInt8) (s : List UInt8) (hs : s.length ≤ 1000) : strings_Builder_WriteByte_U0 ((c.toNat : Nat) : Int) s.length (byteAVs s) = some ((s ++ [c]).length, byteAVs (s ++ [c])) := by
  have e : byteAVs s ++ [AV.int .u8 ((c.toNat : Nat) : Int)] = byteAVs (s ++ [c]) := by simp [byteAVs]
  have hl : (byteAVs s).length = s.length := by simp [byteAVs]
  have d1 : (s.length + 1) * 1 ≤ 140737488355328 := by omega
  have d2 : s.length + 1 ≤ 4611686018427387904 := by omega
  unfold strings_Builder_WriteByte_U0 strings_Builder_WriteByte_U0_t
  rw [e, hl, decide_eq_true d1, decide_eq_true d2]
  simp [br_if]

section
variable (l : List Per) (hl : l.length ≤ 1073741824) (d : Per) (hd : pv d = true) (m : Nat) (hm1 : 1 ≤ m) (hm2 : m ≤ 200) (hm3 : (m : Int) ≤ d.2 - d.1)
include hl hd hm1 hm2 hm3

theorem chart_loop : ∀ (k i : Nat), i + k = m → Iter (report_Chart_l0_step (l.map encP) (d.2 - d.1) (m : Int) (m : Int)) (((i : Nat) : Int), d.1, d.2, (mks l d m i).length, byteAVs (mks l d m i)) = some (m, byteAVs (mks l d m m))
  | 0, i, hk => by
    obtain rfl : i = m := by omega
    rw [mks_len]
    refine iter_end ?_
    unfold report_Chart_l0_step
    simp only
    unfold report_Chart_l0_t
    rw [decide_eq_false (by omega : ¬ ((i : Nat) : Int) < ((i : Nat) : Int))]
    rfl
  | k + 1, i, hk => by
    have hi : i < m := by omega
    have d1 : ((i : Nat) : Int) < ((m : Nat) : Int) := by omega
    have e0 : (!((m : Nat) : Int) == (0 : Int)) = true := by simp; omega
    have hw := wrap_nat (n := i) (show i + 1 ≤ maxLen by unfold maxLen; omega)
    obtain ⟨p1, _, _⟩ := part_expr d hd m hm1 hm2 hm3 (i : Int) (by omega) (by omega)
    obtain ⟨p2, _, _⟩ := part_expr d hd m hm1 hm2 hm3 ((i : Int) + 1) (by omega) (by omega)
    have c1 : IntKind.i64.wrap (((i : Nat) : Int) + 1) = ((i : Nat) : Int) + 1 := by rw [hw]; omega
    obtain ⟨r, c, r1, r2, r3, r4⟩ := rep_mark l hl (prt d m i) (prt_pv d hd m hm1 hm2 hm3 i hi)
    have v1 : report_Chart_l0_v1 (l.map encP) (d.2 - d.1) (m : Int) ((i : Nat) : Int) d.1 = some (r.map encP) := by
      unfold report_Chart_l0_v1; rw [c1, p1, p2]; exact r1
    have v0 : report_Chart_l0_v0 (l.map encP) (d.2 - d.1) (m : Int) ((i : Nat) : Int) d.1 = some c := by
      unfold report_Chart_l0_v0; rw [c1, p1, p2]; exact r2
    have hln := mks_len l d m i
    have b46 : strings_Builder_WriteByte_U0 46 (mks l d m i).length (byteAVs (mks l d m i)) = _ := wbyte 46 (mks l d m i) (by omega)
    have b35 : strings_Builder_WriteByte_U0 35 (mks l d m i).length (byteAVs (mks l d m i)) = _ := wbyte 35 (mks l d m i) (by omega)
    have b43 : strings_Builder_WriteByte_U0 43 (mks l d m i).length (byteAVs (mks l d m i)) = _ := wbyte 43 (mks l d m i) (by omega)
    have st : report_Chart_l0_step (l.map encP) (d.2 - d.1) (m : Int) (m : Int) (((i : Nat) : Int), d.1, d.2, (mks l d m i).length, byteAVs (mks l d m i)) = some (.inl (((i + 1 : Nat) : Int), d.1, d.2, (mks l d m (i + 1)).length, byteAVs (mks l d m (i + 1)))) := by
      rw [mks_succ, r4]
      unfold report_Chart_l0_step
      simp only
      unfold report_Chart_l0_t
      rw [v0, v1, b46, b35, b43, decide_eq_true d1, e0, hw]
      simp only [Option.getD_some, Option.isSome_some, br_tt, List.length_map]
      rw [r3]
      by_cases hr : r = []
      · rw [decide_eq_true hr, if_pos hr]; rfl
      · rw [decide_eq_false hr, if_neg hr]
        cases c <;> rfl
    rw [iter_step st]
    exact chart_loop k (i + 1) (by omega)

theorem line_one (s : List UInt8) (hs : s.length ≤ 1000) : report_line [] [AV.str s] = some (s ++ [10]) := by
  have e : Lib.join [s] [] = s := by simp [Lib.join]
  unfold report_line report_line_t
  have e1 : List.map AV.toStr [AV.str s] = [s] := rfl
  have e2 : ([AV.str s] : List AV).all AV.isStr = true := rfl
  rw [e1, e2, e]
  have d1 : s.length ≤ 140737488355328 := by omega
  have d2 : s.length + 1 ≤ 4611686018427387904 := by omega
  rw [decide_eq_true d1, decide_eq_true d2]
  rfl

set_option maxHeartbeats 1000000 in
theorem chart_body (width : Int) (hw1 : 1 ≤ width) (hw2 : width ≤ 200) (hmw : (if d.2 - d.1 < width then d.2 - d.1 else width) = (m : Int)) : report_Chart (l.map encP) d.1 d.2 width = some (mks l d m m ++ [10]) := by
  have hp := pv_iff.1 hd
  have wn : IntKind.i64.wrap (d.2 - d.1) = d.2 - d.1 := wrap_i64 (by omega) (by omega)
  have v0 : report_Chart_v0 (l.map encP) d.1 d.2 width = (m : Int) := by unfold report_Chart_v0; rw [wn]; exact hmw
  obtain ⟨p1, _, _⟩ := part_expr d hd m hm1 hm2 hm3 0 (by omega) (by omega)
  obtain ⟨p2, _, _⟩ := part_expr d hd m hm1 hm2 hm3 1 (by omega) (by omega)
  obtain ⟨r, c, r1, r2, r3, r4⟩ := rep_mark l hl (prt d m 0) (prt_pv d hd m hm1 hm2 hm3 0 (by omega))
  have v8 : report_Chart_v8 (l.map encP) d.1 d.2 width = some (r.map encP) := by unfold report_Chart_v8; rw [wn, v0, p1, p2]; exact r1
  have v7 : report_Chart_v7 (l.map encP) d.1 d.2 width = some c := by unfold report_Chart_v7; rw [wn, v0, p1, p2]; exact r2
  have hm0 : mks l d m 1 = [markB l (prt d m 0)] := by rw [mks_succ]; rfl
  have hloop := chart_loop l hl d hd m hm1 hm2 hm3 (m - 1) 1 (by omega)
  rw [hm0, r4] at hloop
  have hln := mks_len l d m m
  have hbl : (byteAVs (mks l d m m)).length = m := by rw [show (byteAVs (mks l d m m)).length = (mks l d m m).length by simp [byteAVs], hln]
  have hso := strOf_byteAVs (mks l d m m)
  have hib := isBytes_byteAVs (mks l d m m)
  have e0 : (!((m : Nat) : Int) == (0 : Int)) = true := by simp; omega
  have dm : decide ((0 : Int) < (m : Int)) = true := decide_eq_true (by omega)
  have dmm : decide (m = m) = true := decide_eq_true rfl
  have dm0 : decide (m ≠ 0) = true := decide_eq_true (by omega)
  have dw1 : decide (width < 1) = false := decide_eq_false (by omega)
  have dw2 : decide (width > 200) = false := decide_eq_false (by omega)
  have hline := line_one l hl d hd m hm1 hm2 hm3 (mks l d m m) (by omega)
  unfold report_Chart report_Chart_t
  rw [pvalid_eq, hd, v0, v7, v8, dw1, dw2, dm, e0]
  simp only [Bool.not_true, br_tt, br_ff, Option.isSome_some, Option.getD_some, List.length_map]
  rw [r3]
  by_cases hr : r = []
  · rw [if_pos hr] at hloop
    have v11 : report_Chart_v11 (l.map encP) d.1 d.2 width = some (m, byteAVs (mks l d m m)) := by unfold report_Chart_v11; rw [wn, v0]; exact hloop
    have v6 : report_Chart_v6 (l.map encP) d.1 d.2 width = (m, byteAVs (mks l d m m)) := by unfold report_Chart_v6; rw [v11]; rfl
    have v2 : report_Chart_v2 (l.map encP) d.1 d.2 width = byteAVs (mks l d m m) := by unfold report_Chart_v2; rw [v6]
    rw [decide_eq_true hr, v11, v6, v2, hbl, hso, hib, hline, dmm, dm0]; rfl
  · rw [if_neg hr] at hloop
    rw [decide_eq_false hr]
    cases c with
    | true =>
      have v10 : report_Chart_v10 (l.map encP) d.1 d.2 width = some (m, byteAVs (mks l d m m)) := by unfold report_Chart_v10; rw [wn, v0]; exact hloop
      have v4 : report_Chart_v4 (l.map encP) d.1 d.2 width = (m, byteAVs (mks l d m m)) := by unfold report_Chart_v4; rw [v10]; rfl
      have v3 : report_Chart_v3 (l.map encP) d.1 d.2 width = byteAVs (mks l d m m) := by unfold report_Chart_v3; rw [v4]
      rw [v10, v4, v3, hbl, hso, hib, hline, dmm, dm0]; rfl
    | false =>
      have v9 : report_Chart_v9 (l.map encP) d.1 d.2 width = some (m, byteAVs (mks l d m m)) := by unfold report_Chart_v9; rw [wn, v0]; exact hloop
      have v5 : report_Chart_v5 (l.map encP) d.1 d.2 width = (m, byteAVs (mks l d m m)) := by unfold report_Chart_v5; rw [v9]; rfl
      have v1 : report_Chart_v1 (l.map encP) d.1 d.2 width = byteAVs (mks l d m m) := by unfold report_Chart_v1; rw [v5]
      rw [v9, v5, v1, hbl, hso, hib, hline, dmm, dm0]; rfl

end

/-- How many parts. -/
def parts (d : Per) (width : Int) : Nat := (if d.2 - d.1 < width then d.2 - d.1 else width).toNat
/-- A chart's text. -/
noncomputable def chTxt (l : List Per) (d : Per) (width : Int) : List UInt8 := if pv d = true ∧ 1 ≤ width ∧ width ≤ 200 then mks l d (parts d width) (parts d width) ++ [10] else []

theorem parts_ok {d : Per} {width : Int} (hd : pv d = true) (hw : 1 ≤ width) (hw2 : width ≤ 200) : 1 ≤ parts d width ∧ parts d width ≤ 200 ∧ ((parts d width : Nat) : Int) ≤ d.2 - d.1 ∧ (if d.2 - d.1 < width then d.2 - d.1 else width) = ((parts d width : Nat) : Int) := by
  have hp := pv_iff.1 hd
  unfold parts
  split <;> omega

theorem chart_rep (l : List Per) (hl : l.length ≤ 1073741824) (d : Per) (width : Int) : report_Chart (l.map encP) d.1 d.2 width = some (chTxt l d width) := by
  unfold chTxt
  by_cases h : pv d = true ∧ 1 ≤ width ∧ width ≤ 200
  · rw [if_pos h]
    obtain ⟨hd, hw1, hw2⟩ := h
    obtain ⟨m1, m2, m3, m4⟩ := parts_ok hd hw1 hw2
    exact chart_body l hl d hd _ m1 m2 m3 width hw1 hw2 m4
  · rw [if_neg h]
    unfold report_Chart report_Chart_t
    rw [pvalid_eq]
    cases hd : pv d with
    | false => rfl
    | true =>
      by_cases hw1 : width < 1
      · rw [decide_eq_true hw1]; rfl
      · have hw2 : width > 200 := by
          rcases Int.lt_or_le 200 width with h' | h'
          · exact h'
          · exact absurd ⟨hd, by omega, h'⟩ h
        rw [decide_eq_false hw1, decide_eq_true hw2]; rfl
end Go.Sim.M
