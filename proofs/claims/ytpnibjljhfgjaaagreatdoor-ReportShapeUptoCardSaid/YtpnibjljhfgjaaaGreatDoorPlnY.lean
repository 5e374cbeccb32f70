/- Tables: the reference's table as a whole. -/
import Derived.Test.YtpnibjljhfgjaaaGreatDoorPlnX
set_option linter.unusedVariables false
set_option linter.unusedSectionVars false
set_option linter.unusedSimpArgs false
set_option maxRecDepth 100000
namespace Go.Sim.M
open Go.RowKit Go.Lib

def colW (rest : List (List Sx)) (i w : Nat) : Nat := rest.foldl (fun w r => max w (r.getD i []).length) w

theorem fold_col : ∀ (all : List (List Sx)) (ws : List Nat) (N : Nat), (∀ r, r ∈ all → r.length = N) → ws.length = N → ∀ (i : Nat), i < N → (all.foldl stepW ws).getD i 0 = colW all i (ws.getD i 0)
  | [], ws, N, _, h, i, _ => rfl
  | r :: l, ws, N, hr, h, i, hi => by
    have h0 := hr r (by simp)
    have a : i < ws.length := by omega
    have b : i < r.length := by omega
    have ih := fold_col l (stepW ws r) N (fun r hr' => hr r (by simp [hr'])) (by rw [stepW_len (by omega)]; omega) i hi
    rw [List.foldl_cons, ih, stepW_get a b]
    have e1 : ws.getD i 0 = ws[i] := by rw [List.getD_eq_getElem?_getD, List.getElem?_eq_getElem a]; rfl
    have e2 : r.getD i [] = r[i] := by rw [List.getD_eq_getElem?_getD, List.getElem?_eq_getElem b]; rfl
    simp only [colW, List.foldl_cons]
    rw [e1, e2]

theorem widths_get (head : List Sx) (rest : List (List Sx)) (N : Nat) (hh : head.length = N) (hr : ∀ r, r ∈ rest → r.length = N) (i : Nat) (hi : i < N) (h1 : i < (widthsOf (head :: rest) N).length) :
    (widthsOf (head :: rest) N)[i] = colW rest i (head[i]'(by omega)).length := by
  have e : (widthsOf (head :: rest) N)[i] = (widthsOf (head :: rest) N).getD i 0 := by rw [List.getD_eq_getElem?_getD, List.getElem?_eq_getElem h1]; rfl
  rw [e]
  unfold widthsOf
  rw [List.foldl_cons, fold_col rest _ N hr (by rw [stepW_len (by simp [hh])]; exact hh) i hi, stepW_get (by simp; omega) (by omega)]
  simp

theorem col_loop (names : List AV) (rest : List (List Sx)) (N wn : Nat) (marks : Sx) (i : Nat) (hi : i < N) (hr : ∀ r, r ∈ rest → r.length = N) (hR : rest.length ≤ 1073741824) (wx : List AV) :
    ∀ (k n w : Nat), n + k = rest.length → Iter (ref55_table_l1_step names (encT rest) wn marks ((i : Nat) : Int)) (((w : Nat) : Int), ((n : Nat) : Int), wx) = some (((colW (rest.drop n) i w : Nat) : Int), wx)
  | 0, n, w, hk => by
    obtain rfl : n = rest.length := by omega
    rw [List.drop_length]
    refine iter_end ?_
    simp [ref55_table_l1_step, ref55_table_l1_t, br_if, encT_len, colW]
  | k + 1, n, w, hk => by
    have h1 : n < rest.length := by omega
    have h2 := hr rest[n] (List.getElem_mem h1)
    have h3 : i < rest[n].length := by omega
    have gr : (encT rest).getD ((n : Nat) : Int).toNat .top = AV.list 1 (encS rest[n]) := by rw [Int.toNat_natCast]; exact encT_get rest h1
    have cr : ((AV.list 1 (encS rest[n])).cells.getD 0 AV.top).toList = encS rest[n] := rfl
    have gs : (encS rest[n]).getD ((i : Nat) : Int).toNat .top = AV.str rest[n][i] := by rw [Int.toNat_natCast]; exact encS_get _ h3
    have cs : ((AV.str rest[n][i]).cells.getD 0 AV.top).toStr = rest[n][i] := rfl
    have d1 : ((n : Nat) : Int) < ((rest.length : Nat) : Int) := by omega
    have d2 : (0 : Int) ≤ ((n : Nat) : Int) := by omega
    have d3 : (0 : Int) ≤ ((i : Nat) : Int) := by omega
    have d4 : ((i : Nat) : Int) < ((rest[n].length : Nat) : Int) := by omega
    have st : ref55_table_l1_step names (encT rest) wn marks ((i : Nat) : Int) (((w : Nat) : Int), ((n : Nat) : Int), wx) = some (.inl (((max w rest[n][i].length : Nat) : Int), ((n + 1 : Nat) : Int), wx)) := by
      unfold ref55_table_l1_step
      simp only
      unfold ref55_table_l1_t
      rw [gr, cr, gs, cs, encT_len, encS_len, Int.toNat_natCast, Int.toNat_natCast, max_int, decide_eq_true d1, decide_eq_true d2, decide_eq_true d3, decide_eq_true d4, decide_eq_true h1, decide_eq_true h3, wrap_nat (show n + 1 ≤ maxLen by unfold maxLen; omega)]
      rfl
    have e2 : rest[n].getD i [] = rest[n][i] := by rw [List.getD_eq_getElem?_getD, List.getElem?_eq_getElem h3]; rfl
    rw [iter_step st, col_loop names rest N wn marks i hi hr hR wx k (n + 1) _ (by omega), drop_cons h1]
    simp only [colW, List.foldl_cons]
    rw [e2]

section
variable (head : List Sx) (rest : List (List Sx)) (N : Nat) (hN1 : 1 ≤ N) (hN2 : N ≤ 1073741824) (hh : head.length = N) (hr : ∀ r, r ∈ rest → r.length = N) (hR : rest.length < 1073741824)
  (ws : List Nat) (hws : ws = widthsOf (head :: rest) N) (hwl : ws.length = N) (hw : ∀ w, w ∈ ws → w ≤ 70368744177664)
include hN1 hN2 hh hr hR hws hwl hw

theorem head_step (n : Nat) (marks : Sx) (h1 : n < N) (hl : marks.length + 3 + ws[n] ≤ 140737488355328) :
    ref55_table_l0_step (encS head) (encT rest) (n, marks, ((n : Nat) : Int), encN (ws.take n)) = some (.inl (n + 1, marks ++ (if n = 0 then [] else [45, 43, 45]) ++ mk ws[n], ((n + 1 : Nat) : Int), encN (ws.take (n + 1)))) := by
  have h2 : n < head.length := by omega
  have h3 : n < ws.length := by omega
  have hwn : ws[n] = colW rest n head[n].length := by subst hws; exact widths_get head rest N hh hr n h1 (by omega)
  have gh : (encS head).getD ((n : Nat) : Int).toNat .top = AV.str head[n] := by rw [Int.toNat_natCast]; exact encS_get _ h2
  have cs : ((AV.str head[n]).cells.getD 0 AV.top).toStr = head[n] := rfl
  have cl := col_loop (encS head) rest N n marks n h1 hr (by omega) (encN (ws.take n)) rest.length 0 head[n].length (by omega)
  rw [List.drop_zero, ← hwn] at cl
  have e6 : ref55_table_l0_v6 (encS head) (encT rest) n marks ((n : Nat) : Int) (encN (ws.take n)) = some (((ws[n] : Nat) : Int), encN (ws.take n)) := by
    unfold ref55_table_l0_v6; rw [gh, cs]; exact cl
  have e4 : ref55_table_l0_v4 (encS head) (encT rest) n marks ((n : Nat) : Int) (encN (ws.take n)) = ((ws[n] : Nat) : Int) := by
    unfold ref55_table_l0_v4 ref55_table_l0_v5; rw [e6]; rfl
  have e3 : ref55_table_l0_v3 (encS head) (encT rest) n marks ((n : Nat) : Int) (encN (ws.take n)) = encN (ws.take n) := by
    unfold ref55_table_l0_v3 ref55_table_l0_v5; rw [e6]; rfl
  have e2 : ref55_table_l0_v2 (encS head) (encT rest) n marks ((n : Nat) : Int) (encN (ws.take n)) = some (mk ws[n]) := by
    unfold ref55_table_l0_v2; rw [e4]; exact rep_ok _ _ (by omega)
  have e0 : ref55_table_l0_v0 (encS head) (encT rest) n marks ((n : Nat) : Int) (encN (ws.take n)) = mk ws[n] := by
    unfold ref55_table_l0_v0; rw [e2]; rfl
  have e1 : ref55_table_l0_v1 (encS head) (encT rest) n marks ((n : Nat) : Int) (encN (ws.take n)) = true := by
    unfold ref55_table_l0_v1; rw [e2]; rfl
  have ea : encN (ws.take n) ++ [AV.int .i64 ((ws[n] : Nat) : Int)] = encN (ws.take (n + 1)) := by
    rw [List.take_succ_eq_append_getElem h3]; unfold encN; rw [List.map_append]; rfl
  have ll : (encN (ws.take n)).length = n := by rw [encN_len, List.length_take]; omega
  have d1 : ((n : Nat) : Int) < ((head.length : Nat) : Int) := by omega
  have d2 : (0 : Int) ≤ ((n : Nat) : Int) := by omega
  have d3 : (n + 1) * 8 ≤ 140737488355328 := by omega
  have d4 : n + 1 ≤ 4611686018427387904 := by omega
  have d5 : (n == n) = true := by simp
  have d6 : marks.length + 3 ≤ 4611686018427387904 := by omega
  have d7 : (marks ++ [45, 43, 45]).length + (mk ws[n]).length ≤ 4611686018427387904 := by rw [mk_len, List.length_append]; simp only [List.length_cons, List.length_nil]; omega
  have d8 : marks.length + (mk ws[n]).length ≤ 4611686018427387904 := by rw [mk_len]; omega
  unfold ref55_table_l0_step
  simp only
  unfold ref55_table_l0_t
  rw [e6, e4, e3, e0, e1, gh, ea, ll, encS_len, Int.toNat_natCast, decide_eq_true d1, decide_eq_true d2, decide_eq_true h2, decide_eq_true d3, decide_eq_true d4, d5, decide_eq_true d6, decide_eq_true d7, decide_eq_true d8, wrap_nat (show n + 1 ≤ maxLen by unfold maxLen; omega)]
  by_cases hz : n = 0
  · rw [decide_eq_false (by omega : ¬ ((n : Nat) : Int) > 0), if_pos hz, List.append_nil]; rfl
  · rw [decide_eq_true (by omega : ((n : Nat) : Int) > 0), if_neg hz]; rfl

theorem head_loop : ∀ (k n : Nat) (marks : Sx), n + k = N → 1 ≤ n → (marks ++ joinTail [45, 43, 45] ((ws.map mk).drop n)).length ≤ 70368744177664 →
    Iter (ref55_table_l0_step (encS head) (encT rest)) (n, marks, ((n : Nat) : Int), encN (ws.take n)) = some (N, marks ++ joinTail [45, 43, 45] ((ws.map mk).drop n), encN ws)
  | 0, n, marks, hk, h1, hT => by
    obtain rfl : n = N := by omega
    have e : (ws.map mk).drop n = [] := List.drop_eq_nil_of_le (by simp [hwl])
    have e2 : ws.take n = ws := List.take_of_length_le (by omega)
    rw [e, e2]
    refine iter_end ?_
    have : ¬ ((n : Nat) : Int) < ((head.length : Nat) : Int) := by omega
    simp [ref55_table_l0_step, ref55_table_l0_t, br_if, encS_len, this, joinTail]
  | k + 1, n, marks, hk, h1, hT => by
    have h3 : n < ws.length := by omega
    have h4 : n < (ws.map mk).length := by simp; omega
    have hwn := hw ws[n] (List.getElem_mem _)
    have e : marks ++ joinTail [45, 43, 45] ((ws.map mk).drop n) = (marks ++ [45, 43, 45] ++ mk ws[n]) ++ joinTail [45, 43, 45] ((ws.map mk).drop (n + 1)) := by
      rw [drop_cons h4, joinTail_cons, List.getElem_map]; simp only [List.append_assoc]
    rw [e] at hT ⊢
    have st := head_step head rest N hN1 hN2 hh hr hR ws hws hwl hw n marks (by omega) (by
      simp only [List.length_append, List.length_cons, List.length_nil] at hT
      omega)
    rw [if_neg (by omega)] at st
    rw [iter_step st, head_loop k (n + 1) _ (by omega) (by omega) hT]

theorem head_ok (hT : (mkTxt ws).length ≤ 70368744177664) : Iter (ref55_table_l0_step (encS head) (encT rest)) ((0 : Nat), [], (0 : Int), []) = some (N, join (ws.map mk) [45, 43, 45], encN ws) := by
  have h3 : 0 < ws.length := by omega
  have hwn := hw ws[0] (List.getElem_mem _)
  have st := head_step head rest N hN1 hN2 hh hr hR ws hws hwl hw 0 [] (by omega) (by simp only [List.length_nil]; omega)
  rw [if_pos rfl, List.nil_append, List.nil_append] at st
  have ej : join (ws.map mk) [45, 43, 45] = mk ws[0] ++ joinTail [45, 43, 45] ((ws.map mk).drop 1) := by
    have : ws.map mk = mk ws[0] :: (ws.map mk).drop 1 := by
      have := drop_cons (l := ws.map mk) (n := 0) (by simp; omega)
      rw [List.drop_zero, List.getElem_map] at this
      exact this
    conv => lhs; rw [this]
    exact join_cons _ _ _
  have hT' := hT
  simp only [mkTxt, List.length_append, List.length_cons, List.length_nil] at hT'
  rw [ej] at hT' ⊢
  rw [← head_loop head rest N hN1 hN2 hh hr hR ws hws hwl hw (N - 1) 1 (mk ws[0]) (by omega) (by omega) (by rw [List.length_append]; rw [List.length_append] at hT'; omega)]
  exact iter_step st

theorem body_loop (hfit : ∀ r, r ∈ rest → Fit ws r) : ∀ (k n : Nat) (acc : Sx), n + k = rest.length → (acc ++ rowsTxt ws (rest.drop n)).length ≤ 70368744177664 →
    Iter (ref55_table_l2_step (encT rest) N) (acc, ((n : Nat) : Int), encN ws) = some (acc ++ rowsTxt ws (rest.drop n))
  | 0, n, acc, hk, hT => by
    obtain rfl : n = rest.length := by omega
    rw [List.drop_length]
    refine iter_end ?_
    simp [ref55_table_l2_step, ref55_table_l2_t, br_if, encT_len, rowsTxt]
  | k + 1, n, acc, hk, hT => by
    have h1 : n < rest.length := by omega
    have hf := hfit rest[n] (List.getElem_mem h1)
    have hq := hr rest[n] (List.getElem_mem h1)
    rw [drop_cons h1, rowsTxt, ← List.append_assoc] at hT ⊢
    have hT' := hT
    simp only [List.length_append] at hT'
    have el := rline_ok ws rest[n] hf (by omega) hw (by omega) (by omega)
    have gr : (encT rest).getD ((n : Nat) : Int).toNat .top = AV.list 1 (encS rest[n]) := by rw [Int.toNat_natCast]; exact encT_get rest h1
    have cr : ((AV.list 1 (encS rest[n])).cells.getD 0 AV.top).toList = encS rest[n] := rfl
    have et : List.take N (List.drop 0 (encN ws)) = encN ws := by rw [List.drop_zero, List.take_of_length_le (by rw [encN_len]; omega)]
    have d1 : ((n : Nat) : Int) < ((rest.length : Nat) : Int) := by omega
    have d2 : (0 : Int) ≤ ((n : Nat) : Int) := by omega
    have d3 : 0 + N ≤ ws.length := by omega
    have d4 : acc.length + (lnTxt ws rest[n]).length ≤ 4611686018427387904 := by omega
    have st : ref55_table_l2_step (encT rest) N (acc, ((n : Nat) : Int), encN ws) = some (.inl (acc ++ lnTxt ws rest[n], ((n + 1 : Nat) : Int), encN ws)) := by
      unfold ref55_table_l2_step
      simp only
      unfold ref55_table_l2_t
      rw [gr, cr, et, el, encT_len, encN_len, Int.toNat_natCast, decide_eq_true d1, decide_eq_true d2, decide_eq_true h1, decide_eq_true d3, wrap_nat (show n + 1 ≤ maxLen by unfold maxLen; omega)]
      simp only [Option.getD_some, Option.isSome_some]
      rw [decide_eq_true d4]
      rfl
    rw [iter_step st, body_loop hfit k (n + 1) _ (by omega) hT]

theorem rtable_ok (hT : (tabTxt head rest ws).length ≤ 70368744177664) : ref55_table (encS head) (encT rest) = some (tabTxt head rest ws) := by
  have hall : ∀ r, r ∈ head :: rest → r.length = N := fun r h => by
    rcases List.mem_cons.1 h with rfl | h
    · exact hh
    · exact hr r h
  have hfit : ∀ r, r ∈ head :: rest → Fit ws r := by rw [hws]; exact fold_fit _ _ N hall (by simp)
  have hTT := hT
  simp only [tabTxt, List.length_append] at hTT
  have e9 : ref55_table_v9 (encS head) (encT rest) = some (N, join (ws.map mk) [45, 43, 45], encN ws) :=
    head_ok head rest N hN1 hN2 hh hr hR ws hws hwl hw (by omega)
  have e8 : ref55_table_v8 (encS head) (encT rest) = (N, join (ws.map mk) [45, 43, 45], encN ws) := by unfold ref55_table_v8; rw [e9]; rfl
  have e5 : ref55_table_v5 (encS head) (encT rest) = N := by unfold ref55_table_v5; rw [e8]
  have e4 : ref55_table_v4 (encS head) (encT rest) = encN ws := by unfold ref55_table_v4 ref55_table_v7; rw [e8]
  have e6 : ref55_table_v6 (encS head) (encT rest) = join (ws.map mk) [45, 43, 45] := by unfold ref55_table_v6 ref55_table_v7; rw [e8]
  have et : List.take N (List.drop 0 (encN ws)) = encN ws := by rw [List.drop_zero, List.take_of_length_le (by rw [encN_len]; omega)]
  have e3 : ref55_table_v3 (encS head) (encT rest) = some (lnTxt ws head) := by
    unfold ref55_table_v3; rw [e5, e4, et]
    exact rline_ok ws head (hfit head (by simp)) (by omega) hw (by omega) (by omega)
  have e2 : ref55_table_v2 (encS head) (encT rest) = lnTxt ws head := by unfold ref55_table_v2; rw [e3]; rfl
  have e1 : ref55_table_v1 (encS head) (encT rest) = lnTxt ws head ++ join (ws.map mk) [45, 43, 45] := by unfold ref55_table_v1; rw [e2, e6]
  have em : lnTxt ws head ++ join (ws.map mk) [45, 43, 45] ++ [10] = lnTxt ws head ++ mkTxt ws := by simp [mkTxt]
  have hb := body_loop head rest N hN1 hN2 hh hr hR ws hws hwl hw (fun r h => hfit r (by simp [h])) rest.length 0 (lnTxt ws head ++ mkTxt ws) (by omega) hT
  have e0 : ref55_table_v0 (encS head) (encT rest) = some (tabTxt head rest ws) := by
    unfold ref55_table_v0; rw [e5, e4, e1, em]; exact hb
  have hm : (mkTxt ws).length = (join (ws.map mk) [45, 43, 45]).length + 1 := by simp [mkTxt]
  have d1 : 0 + N ≤ ws.length := by omega
  have d2 : (lnTxt ws head).length + (join (ws.map mk) [45, 43, 45]).length ≤ 4611686018427387904 := by omega
  have d3 : (lnTxt ws head ++ join (ws.map mk) [45, 43, 45]).length + 1 ≤ 4611686018427387904 := by rw [List.length_append]; omega
  unfold ref55_table ref55_table_t
  rw [e9, e5, e4, e3, e2, e6, e1, e0, encN_len, decide_eq_true d1, decide_eq_true d2, decide_eq_true d3]
  rfl
end
end Go.Sim.M
