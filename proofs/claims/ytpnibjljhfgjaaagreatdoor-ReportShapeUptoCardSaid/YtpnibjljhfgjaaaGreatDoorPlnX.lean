/- Tables: the reference's table. -/
import Derived.Test.YtpnibjljhfgjaaaGreatDoorPlnU
set_option linter.unusedVariables false
set_option linter.unusedSectionVars false
set_option linter.unusedSimpArgs false
set_option maxRecDepth 100000
namespace Go.Sim.M
open Go.RowKit Go.Lib

theorem rep_loop (c : UInt8) (N : Nat) (hN : N ≤ 140737488355328) : ∀ (k n : Nat), n + k = N → Iter (ref55_repeat_l0_step [c] ((N : Nat) : Int)) (repeatL [c] n, ((n : Nat) : Int)) = some (repeatL [c] N)
  | 0, n, hk => by
    obtain rfl : n = N := by omega
    refine iter_end ?_
    simp [ref55_repeat_l0_step, ref55_repeat_l0_t, br_if]
  | k + 1, n, hk => by
    have e : repeatL [c] n ++ [c] = repeatL [c] (n + 1) := by rw [repeatL_add, repeatL_one]
    have hl : (repeatL [c] n).length = n := by rw [repeatL_length]; simp
    have st : ref55_repeat_l0_step [c] ((N : Nat) : Int) (repeatL [c] n, ((n : Nat) : Int)) = some (.inl (repeatL [c] (n + 1), ((n + 1 : Nat) : Int))) := by
      have d1 : ((n : Nat) : Int) < ((N : Nat) : Int) := by omega
      have d2 : n + [c].length ≤ 4611686018427387904 := by simp; omega
      unfold ref55_repeat_l0_step
      simp only
      unfold ref55_repeat_l0_t
      rw [hl, e, decide_eq_true d1, decide_eq_true d2, wrap_nat (show n + 1 ≤ maxLen by unfold maxLen; omega)]
      rfl
    rw [iter_step st, rep_loop c N hN k (n + 1) (by omega)]

theorem rep_ok (c : UInt8) (N : Nat) (hN : N ≤ 140737488355328) : ref55_repeat [c] ((N : Nat) : Int) = some (repeatL [c] N) := by
  unfold ref55_repeat ref55_repeat_t
  have h := rep_loop c N hN N 0 (by omega)
  have h' : Iter (ref55_repeat_l0_step [c] ((N : Nat) : Int)) ([], (0 : Int)) = some (repeatL [c] N) := h
  rw [h']; rfl

theorem joinTail_cons (sep x : Sx) (l : List Sx) : joinTail sep (x :: l) = sep ++ x ++ joinTail sep l := by simp [joinTail]

theorem padRow_get (ws : List Nat) (r : List Sx) (h : ws.length = r.length) (n : Nat) (h1 : n < r.length) (h2 : n < (padRow ws r).length) :
    (padRow ws r)[n] = if n < r.length - 1 then pd (ws[n]'(by omega)) r[n] else r[n] := by
  simp only [padRow]
  rw [List.getElem_append]
  split
  · rename_i hh
    have : n < r.length - 1 := by simp at hh; omega
    rw [if_pos this]
    simp
  · rename_i hh
    have : ¬ n < r.length - 1 := by simp [h] at hh; omega
    rw [if_neg this, List.getElem_drop]
    congr 1
    simp [h] at hh ⊢
    omega

section
variable (ws : List Nat) (r : List Sx) (hf : Fit ws r) (hn : r.length ≤ 1073741824) (hw : ∀ w, w ∈ ws → w ≤ 70368744177664)
include hf hn hw

theorem rpad (n : Nat) (h1 : n < r.length) (h2 : n < ws.length) : ref55_repeat [32] (IntKind.i64.wrap (((ws[n] : Nat) : Int) - ((r[n].length : Nat) : Int))) = some (repeatL [32] (ws[n] - r[n].length)) := by
  have b1 := hf.2 n h1 h2
  have b2 := hw ws[n] (List.getElem_mem h2)
  have e : IntKind.i64.wrap (((ws[n] : Nat) : Int) - ((r[n].length : Nat) : Int)) = ((ws[n] - r[n].length : Nat) : Int) := by
    rw [wrap_i64 (by omega) (by omega)]; omega
  rw [e]
  exact rep_ok _ _ (by omega)

theorem line_step (n : Nat) (out : Sx) (h1 : n < r.length) (hl : out.length + 3 + (pd (ws[n]'(by rw [hf.1]; exact h1)) r[n]).length ≤ 140737488355328) :
    ref55_line_l0_step (encS r) (encN ws) (out, ((n : Nat) : Int)) = some (.inl (out ++ (if n = 0 then [] else [32, 124, 32]) ++ (padRow ws r)[n]'(by rw [padRow_len ws r hf.1]; exact h1), ((n + 1 : Nat) : Int))) := by
  have h2 : n < ws.length := by rw [hf.1]; exact h1
  have hp := padRow_get ws r hf.1 n h1 (by rw [padRow_len ws r hf.1]; exact h1)
  rw [hp]
  have hb := hf.2 n h1 h2
  rw [pd_len _ _ hb] at hl
  have gc : ((encS r).getD ((n : Nat) : Int).toNat .top) = AV.str r[n] := by rw [Int.toNat_natCast]; exact encS_get r h1
  have gw : ((encN ws).getD ((n : Nat) : Int).toNat .top) = AV.int .i64 ((ws[n] : Nat) : Int) := by rw [Int.toNat_natCast]; exact getD_map _ _ _ h2
  have ew : IntKind.i64.wrap (((r.length : Nat) : Int) - 1) = ((r.length - 1 : Nat) : Int) := by
    rw [wrap_i64 (by omega) (by omega)]; omega
  have d1 : ((n : Nat) : Int) < ((r.length : Nat) : Int) := by omega
  have d1w : ((n : Nat) : Int) < ((ws.length : Nat) : Int) := by omega
  have d2 : (0 : Int) ≤ ((n : Nat) : Int) := by omega
  have er := rpad ws r hf hn hw n h1 h2
  have cs : ((AV.str r[n]).cells.getD 0 AV.top).toStr = r[n] := rfl
  have cw : ((AV.int .i64 ((ws[n] : Nat) : Int)).cells.getD 0 AV.top).toInt = ((ws[n] : Nat) : Int) := rfl
  have x2 : ref55_line_l0_v2 (encS r) ((n : Nat) : Int) = true := by
    unfold ref55_line_l0_v2; rw [encS_len, decide_eq_true d1, decide_eq_true d2]; rfl
  have x3 : ref55_line_l0_v3 (encS r) ((n : Nat) : Int) = true := by
    unfold ref55_line_l0_v3; rw [gc, encS_len, Int.toNat_natCast, decide_eq_true h1]; rfl
  have x1 : ref55_line_l0_v1 (encS r) (encN ws) ((n : Nat) : Int) = repeatL [32] (ws[n] - r[n].length) := by
    unfold ref55_line_l0_v1 ref55_line_l0_v5; rw [gc, gw, cs, cw, er]; rfl
  have x4 : ref55_line_l0_v4 (encS r) (encN ws) ((n : Nat) : Int) = true := by
    unfold ref55_line_l0_v4 ref55_line_l0_v5; rw [gc, gw, cs, cw, er]; rfl
  have x0 : ref55_line_l0_v0 (encS r) out ((n : Nat) : Int) = out ++ [32, 124, 32] ++ r[n] := by
    unfold ref55_line_l0_v0; rw [gc, cs]
  have x6 : ref55_line_l0_v6 (encS r) out ((n : Nat) : Int) = out ++ r[n] := by
    unfold ref55_line_l0_v6; rw [gc, cs]
  have x7 : ref55_line_l0_v7 (encS r) ((n : Nat) : Int) = decide (n < r.length - 1) := by
    unfold ref55_line_l0_v7; rw [encS_len, ew]; simp only [Int.ofNat_lt]
  unfold ref55_line_l0_step
  simp only
  unfold ref55_line_l0_t
  rw [x2, x3, x1, x4, x0, x6, x7, gc, gw, cs, encS_len, encN_len, Int.toNat_natCast, decide_eq_true d1, decide_eq_true d1w, decide_eq_true d2, decide_eq_true h2, wrap_nat (show n + 1 ≤ maxLen by unfold maxLen; omega)]
  have g0 : (out ++ [32, 124, 32]).length + r[n].length ≤ 4611686018427387904 := by simp only [List.length_append, List.length_cons, List.length_nil]; omega
  have g1 : out.length + 3 ≤ 4611686018427387904 := by omega
  have g2 : (out ++ [32, 124, 32] ++ r[n]).length + (repeatL [32] (ws[n] - r[n].length)).length ≤ 4611686018427387904 := by
    rw [repeatL_length]; simp only [List.length_append, List.length_cons, List.length_nil]; omega
  have g3 : out.length + r[n].length ≤ 4611686018427387904 := by omega
  have g4 : (out ++ r[n]).length + (repeatL [32] (ws[n] - r[n].length)).length ≤ 4611686018427387904 := by
    rw [repeatL_length]; simp only [List.length_append, List.length_cons, List.length_nil]; omega
  rw [decide_eq_true g0, decide_eq_true g1, decide_eq_true g2, decide_eq_true g3, decide_eq_true g4]
  by_cases hz : n = 0
  · have dz : ¬ ((n : Nat) : Int) > 0 := by omega
    rw [decide_eq_false dz, if_pos hz]
    by_cases hlast : n < r.length - 1
    · rw [decide_eq_true hlast, if_pos hlast]
      simp only [br_tt, Bool.true_and, List.append_nil, pd, List.append_assoc]; rfl
    · rw [decide_eq_false hlast, if_neg hlast]
      simp only [br_tt, Bool.true_and, List.append_nil]; rfl
  · have dz : ((n : Nat) : Int) > 0 := by omega
    rw [decide_eq_true dz, if_neg hz]
    by_cases hlast : n < r.length - 1
    · rw [decide_eq_true hlast, if_pos hlast]
      simp only [br_tt, Bool.true_and, pd, List.append_assoc]; rfl
    · rw [decide_eq_false hlast, if_neg hlast]
      simp only [br_tt, Bool.true_and, List.append_assoc]; rfl

theorem padRow_cell (n : Nat) (h1 : n < r.length) (h2 : n < (padRow ws r).length) : ((padRow ws r)[n]).length ≤ ws[n]'(by rw [hf.1]; exact h1) := by
  rw [padRow_get ws r hf.1 n h1 h2]
  have b := hf.2 n h1 (by rw [hf.1]; exact h1)
  split
  · rw [pd_len _ _ b]; exact Nat.le_refl _
  · exact b

theorem line_loop : ∀ (k n : Nat) (out : Sx), n + k = r.length → 1 ≤ n → (out ++ joinTail [32, 124, 32] ((padRow ws r).drop n)).length ≤ 70368744177664 →
    Iter (ref55_line_l0_step (encS r) (encN ws)) (out, ((n : Nat) : Int)) = some (out ++ joinTail [32, 124, 32] ((padRow ws r).drop n))
  | 0, n, out, hk, h1, hT => by
    have e : (padRow ws r).drop n = [] := List.drop_eq_nil_of_le (by rw [padRow_len ws r hf.1]; omega)
    rw [e]
    refine iter_end ?_
    have : ¬ ((n : Nat) : Int) < ((r.length : Nat) : Int) := by omega
    simp [ref55_line_l0_step, ref55_line_l0_t, br_if, encS_len, this, joinTail]
  | k + 1, n, out, hk, h1, hT => by
    have h2 : n < r.length := by omega
    have h3 : n < (padRow ws r).length := by rw [padRow_len ws r hf.1]; exact h2
    have hwn := hw (ws[n]'(by rw [hf.1]; exact h2)) (List.getElem_mem _)
    have e : out ++ joinTail [32, 124, 32] ((padRow ws r).drop n) = (out ++ [32, 124, 32] ++ (padRow ws r)[n]) ++ joinTail [32, 124, 32] ((padRow ws r).drop (n + 1)) := by
      rw [drop_cons h3, joinTail_cons]; simp only [List.append_assoc]
    rw [e] at hT ⊢
    have st := line_step ws r hf hn hw n out h2 (by
      rw [pd_len _ _ (hf.2 n h2 (by rw [hf.1]; exact h2))]
      simp only [List.length_append, List.length_cons, List.length_nil] at hT
      omega)
    rw [if_neg (by omega)] at st
    rw [iter_step st, line_loop k (n + 1) _ (by omega) (by omega) hT]

theorem rline_ok (h1 : 1 ≤ r.length) (hT : (lnTxt ws r).length ≤ 70368744177664) : ref55_line (encS r) (encN ws) = some (lnTxt ws r) := by
  have h3 : 0 < (padRow ws r).length := by rw [padRow_len ws r hf.1]; exact h1
  have hwn := hw (ws[0]'(by rw [hf.1]; exact h1)) (List.getElem_mem _)
  have st := line_step ws r hf hn hw 0 [] h1 (by
      rw [pd_len _ _ (hf.2 0 h1 (by rw [hf.1]; exact h1))]
      simp only [List.length_nil]; omega)
  rw [if_pos rfl, List.nil_append, List.nil_append] at st
  have ej : join (padRow ws r) [32, 124, 32] = (padRow ws r)[0] ++ joinTail [32, 124, 32] ((padRow ws r).drop 1) := by
    have : padRow ws r = (padRow ws r)[0] :: (padRow ws r).drop 1 := by
      have := drop_cons h3
      rw [List.drop_zero] at this
      exact this
    conv => lhs; rw [this]
    exact join_cons _ _ _
  have hT' := hT
  simp only [lnTxt, List.length_append, List.length_cons, List.length_nil] at hT'
  rw [ej] at hT'
  have lp := line_loop ws r hf hn hw (r.length - 1) 1 ((padRow ws r)[0]) (by omega) (by omega) (by omega)
  have it : Iter (ref55_line_l0_step (encS r) (encN ws)) ([], (0 : Int)) = some (join (padRow ws r) [32, 124, 32]) := by
    rw [ej, ← lp]; exact iter_step st
  unfold ref55_line ref55_line_t
  rw [it]
  have d : (join (padRow ws r) [32, 124, 32]).length + 1 ≤ 4611686018427387904 := by rw [ej]; omega
  simp only [Option.isSome_some, Option.getD_some]
  rw [decide_eq_true d]
  rfl
end
end Go.Sim.M
