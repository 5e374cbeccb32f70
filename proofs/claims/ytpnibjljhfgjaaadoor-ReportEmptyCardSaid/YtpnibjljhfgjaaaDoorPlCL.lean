/- The law on empty charts. -/
import Derived.Test.YtpnibjljhfgjaaaDoorPlCh
import Derived.Test.YtpnibjljhfgjaaaDoorKCL
set_option linter.unusedVariables false
set_option maxRecDepth 100000
namespace Go.Sim.M
open Go.RowKit Go.Lib

theorem markB_none (p : Per) (hp : pv p = true) : markB [] p = 46 := by
  have a := pv_iff.1 hp
  have h : hasP p p.1 = true := hasP_iff.2 ⟨hp, Int.le_refl _, a.2.1⟩
  unfold markB
  rw [if_neg, if_neg]
  · rintro ⟨t, _, h2⟩; rw [inL_nil] at h2; cases h2
  · intro h3; have := h3 _ h; rw [inL_nil] at this; cases this
theorem markB_all (d p : Per) (hd : pv d = true) (hp : pv p = true) (h1 : d.1 ≤ p.1) (h2 : p.2 ≤ d.2) : markB [d] p = 35 := by
  unfold markB
  rw [if_pos]
  intro t ht
  obtain ⟨_, a, b⟩ := hasP_iff.1 ht
  rw [inL_cons, inL_nil, Bool.or_false]
  exact hasP_iff.2 ⟨hd, by omega, by omega⟩

section
variable (d : Per) (hd : pv d = true) (m : Nat) (hm1 : 1 ≤ m) (hm2 : m ≤ 200) (hm3 : (m : Int) ≤ d.2 - d.1)
include hd hm1 hm2 hm3
theorem mks_none : mks [] d m m = List.replicate m 46 := by
  unfold mks
  refine List.eq_replicate_iff.2 ⟨by simp, fun x hx => ?_⟩
  obtain ⟨k, hk, rfl⟩ := List.mem_map.1 hx
  exact markB_none _ (prt_pv d hd m hm1 hm2 hm3 k (List.mem_range.1 hk))
theorem mks_all : mks [d] d m m = List.replicate m 35 := by
  unfold mks
  refine List.eq_replicate_iff.2 ⟨by simp, fun x hx => ?_⟩
  obtain ⟨k, hk, rfl⟩ := List.mem_map.1 hx
  have hk := List.mem_range.1 hk
  obtain ⟨_, a1, a2⟩ := part_expr d hd m hm1 hm2 hm3 (k : Int) (by omega) (by omega)
  obtain ⟨_, b1, b2⟩ := part_expr d hd m hm1 hm2 hm3 ((k : Int) + 1) (by omega) (by omega)
  refine markB_all _ _ hd (prt_pv d hd m hm1 hm2 hm3 k hk) ?_ ?_
  · show d.1 ≤ d.1 + _; omega
  · show d.1 + _ ≤ d.2; omega
end

theorem rep_get (m i : Nat) (c : UInt8) (h : i < m) : (List.replicate m c ++ [10]).getD i 0 = c := by
  rw [List.getD_eq_getElem?_getD, List.getElem?_append_left (by simp; exact h)]
  simp [h]
theorem rep_last (m : Nat) (c : UInt8) : (List.replicate m c ++ [10]).getD m 0 = 10 := by
  rw [List.getD_eq_getElem?_getD, List.getElem?_append_right (by simp)]
  simp

theorem empty_loop (m : Nat) (hm : m ≤ 200) (n : Int) : ∀ (k i : Nat), i + k = m → Iter (law55_ReportEmpty_l0_step (List.replicate m 46 ++ [10]) (List.replicate m 35 ++ [10]) n ((m : Nat) : Int)) ((i : Nat) : Int) = some (false, false, ())
  | 0, i, hk => by
    obtain rfl : i = m := by omega
    refine iter_end ?_
    unfold law55_ReportEmpty_l0_step
    unfold law55_ReportEmpty_l0_t
    rw [decide_eq_false (by omega : ¬ ((i : Nat) : Int) < ((i : Nat) : Int))]
    rfl
  | k + 1, i, hk => by
    have hi : i < m := by omega
    have d1 : ((i : Nat) : Int) < ((m : Nat) : Int) := by omega
    have hw := wrap_nat (n := i) (show i + 1 ≤ maxLen by unfold maxLen; omega)
    have l1 : (List.replicate m (46 : UInt8) ++ [10]).length = m + 1 := by simp
    have l2 : (List.replicate m (35 : UInt8) ++ [10]).length = m + 1 := by simp
    have d2 : (0 : Int) ≤ ((i : Nat) : Int) := by omega
    have d3 : ((i : Nat) : Int) < ((m + 1 : Nat) : Int) := by omega
    have st : law55_ReportEmpty_l0_step (List.replicate m 46 ++ [10]) (List.replicate m 35 ++ [10]) n ((m : Nat) : Int) ((i : Nat) : Int) = some (.inl ((i + 1 : Nat) : Int)) := by
      unfold law55_ReportEmpty_l0_step
      unfold law55_ReportEmpty_l0_t
      rw [l1, l2, Int.toNat_natCast, rep_get m i 46 hi, rep_get m i 35 hi, decide_eq_true d1, decide_eq_true d2, decide_eq_true d3, hw]
      rfl
    rw [iter_step st]
    exact empty_loop m hm n k (i + 1) (by omega)

theorem law_empty (d : Per) (width : Int) : law55_ReportEmpty d.1 d.2 width = some true := by
  have e1 : report_Chart [] d.1 d.2 width = some (chTxt [] d width) := chart_rep [] (by simp) d width
  have e2 : report_Chart [AV.agg [AV.int IntKind.i64 d.1, AV.int IntKind.i64 d.2]] d.1 d.2 width = some (chTxt [d] d width) := chart_rep [d] (by simp) d width
  have v3 : law55_ReportEmpty_v3 d.1 d.2 width = chTxt [d] d width := by unfold law55_ReportEmpty_v3; rw [e2]; rfl
  by_cases h : pv d = true ∧ 1 ≤ width ∧ width ≤ 200
  · obtain ⟨hd, hw1, hw2⟩ := h
    obtain ⟨m1, m2, m3, m4⟩ := parts_ok hd hw1 hw2
    have hp := pv_iff.1 hd
    have c1 : chTxt [] d width = List.replicate (parts d width) 46 ++ [10] := by unfold chTxt; rw [if_pos ⟨hd, hw1, hw2⟩, mks_none d hd _ m1 m2 m3]
    have c2 : chTxt [d] d width = List.replicate (parts d width) 35 ++ [10] := by unfold chTxt; rw [if_pos ⟨hd, hw1, hw2⟩, mks_all d hd _ m1 m2 m3]
    rw [c1] at e1
    rw [c2] at e2 v3
    generalize parts d width = m at *
    have wn : IntKind.i64.wrap (d.2 - d.1) = d.2 - d.1 := wrap_i64 (by omega) (by omega)
    have v0 : law55_ReportEmpty_v0 d.1 d.2 width = (m : Int) := by unfold law55_ReportEmpty_v0; rw [wn]; exact m4
    have hl := empty_loop m m2 (m : Int) m 0 (by omega)
    have v2 : law55_ReportEmpty_v2 d.1 d.2 width = (false, false, ()) := by
      unfold law55_ReportEmpty_v2; rw [e1, v3, v0]
      show (Iter _ ((0 : Nat) : Int)).getD _ = _
      rw [Option.getD_some, hl]; rfl
    have hl' : Iter (law55_ReportEmpty_l0_step (List.replicate m 46 ++ [10]) (List.replicate m 35 ++ [10]) (m : Int) ((m : Nat) : Int)) (0 : Int) = some (false, false, ()) := hl
    have hw := wrap_nat (n := m) (show m + 1 ≤ maxLen by unfold maxLen; omega)
    have l1 : (List.replicate m (46 : UInt8) ++ [10]).length = m + 1 := by simp
    have l2 : (List.replicate m (35 : UInt8) ++ [10]).length = m + 1 := by simp
    have d2 : (0 : Int) ≤ ((m : Nat) : Int) := by omega
    have d3 : ((m : Nat) : Int) < ((m + 1 : Nat) : Int) := by omega
    have dw1 : decide (width < 1) = false := decide_eq_false (by omega)
    have dw2 : decide (width > 200) = false := decide_eq_false (by omega)
    have v1 : law55_ReportEmpty_v1 d.1 d.2 width = true := by unfold law55_ReportEmpty_v1; rw [v0]; exact decide_eq_true d2
    have dn : ((((m + 1 : Nat) : Int)) != ((m + 1 : Nat) : Int)) = false := by simp
    unfold law55_ReportEmpty law55_ReportEmpty_t
    rw [rvalid_eq, hd, v2, v1, v3, v0, e1, e2, Option.getD_some, l1, l2, hl', dw1, dw2, hw, dn, decide_eq_true d3, Int.toNat_natCast, rep_last, rep_last]
    rfl
  · have c1 : chTxt [] d width = [] := by unfold chTxt; rw [if_neg h]
    have c2 : chTxt [d] d width = [] := by unfold chTxt; rw [if_neg h]
    rw [c1] at e1
    rw [c2] at e2 v3
    unfold law55_ReportEmpty law55_ReportEmpty_t
    rw [rvalid_eq, v3, e1, e2]
    cases hd : pv d with
    | false => rfl
    | true =>
      by_cases hw1 : width < 1
      · rw [decide_eq_true hw1]; rfl
      · have hw2 : width > 200 := by
          rcases Int.lt_or_le 200 width with h' | h'
          · exact h'
          · exact absurd ⟨hd, by omega, h'⟩ h
        rw [decide_eq_false hw1, decide_eq_true hw2]; rfl
end Go.Sim.M
