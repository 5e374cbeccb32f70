/- Tables: report.table as a whole. -/
import Derived.Test.YtpnibjljhfgjaaaGreatDoorPlnT
set_option linter.unusedVariables false
set_option linter.unusedSimpArgs false
set_option maxRecDepth 100000
namespace Go.Sim.M
open Go.RowKit Go.Lib

theorem padRow_len (ws : List Nat) (r : List Sx) (h : ws.length = r.length) : (padRow ws r).length = r.length := by
  simp only [padRow, h, List.length_append, List.length_take, List.length_zipWith, List.length_drop]; omega
theorem encS_pad (ws : List Nat) (r : List Sx) : (encS (List.zipWith pd ws r)).take (r.length - 1) ++ (encS r).drop (r.length - 1) = encS (padRow ws r) := by
  simp [encS, padRow, List.map_take, List.map_drop]
theorem take_encS (l : List Sx) (n : Nat) (h : n = l.length) : List.take n (List.drop 0 (encS l)) = encS l := by
  rw [List.drop_zero, List.take_of_length_le (by simp [encS_len, h])]

section
variable (ws : List Nat) (hN1 : 1 ≤ ws.length) (hN2 : ws.length ≤ 1073741824) (hw : ∀ w, w ∈ ws → w ≤ 70368744177664) (all : List (List Sx)) (hall : ∀ r, r ∈ all → Fit ws r) (hR : all.length ≤ 1073741824)
include hN1 hN2 hw hall hR

theorem l2_loop : ∀ (k n : Nat) (acc : Sx), n + k = all.length → 1 ≤ n → (acc ++ rowsTxt ws (all.drop n)).length ≤ 70368744177664 →
    Iter (report_table_l2_step ws.length (encT all) ((all.length : Nat) : Int)) (((n : Nat) : Int), encN ws, acc.length, byteAVs acc) = some ((acc ++ rowsTxt ws (all.drop n)).length, byteAVs (acc ++ rowsTxt ws (all.drop n)))
  | 0, n, acc, hk, hn, hT => by
    obtain rfl : n = all.length := by omega
    rw [List.drop_length]
    refine iter_end ?_
    simp [report_table_l2_step, report_table_l2_t, br_if, rowsTxt]
  | k + 1, n, acc, hk, hn, hT => by
    have h1 : n < all.length := by omega
    have hf := hall all[n] (List.getElem_mem h1)
    have hl := hf.1
    rw [drop_cons h1, rowsTxt, ← List.append_assoc] at hT ⊢
    have hp := padRow_len ws all[n] hl
    have e18 : report_table_l2_v18 (encT all) ((n : Nat) : Int) = ws.length := by
      unfold report_table_l2_v18
      rw [Int.toNat_natCast, encT_get all h1, hl]
      exact encS_len _
    have ew : IntKind.i64.wrap (((ws.length : Nat) : Int) - 1) = ((ws.length - 1 : Nat) : Int) := by
      rw [wrap_i64 (by omega) (by omega)]; omega
    have hpad := pad_u ws all[n] hf (by omega) hw ((n : Nat) : Int) (encT all) ((all.length : Nat) : Int) ((n : Nat) : Int) acc.length (byteAVs acc) (all[n].length - 1) (by omega) (all[n].length - 1) 0 (by omega)
    simp only [List.take_zero, List.drop_zero, List.nil_append] at hpad
    rw [encS_pad, ← hl] at hpad
    have e17 : report_table_l2_v17 ws.length (encT all) ((all.length : Nat) : Int) ((n : Nat) : Int) (encN ws) acc.length (byteAVs acc) = some (encN ws, acc.length, encS (padRow ws all[n]), byteAVs acc) := by
      unfold report_table_l2_v17
      rw [e18, ew, Int.toNat_natCast, Nat.sub_zero, Int.toNat_natCast, encT_get all h1]
      exact hpad
    have hlen : (lnTxt ws all[n]).length ≤ 70368744177664 := by
      simp only [List.length_append] at hT; omega
    have eline : report_line [32, 124, 32] (List.take ws.length (List.drop 0 (encS (padRow ws all[n])))) = some (lnTxt ws all[n]) := by
      rw [take_encS _ _ (by omega)]
      refine line_any _ _ (by omega) ?_
      simp only [lnTxt, List.length_append] at hlen; omega
    have ewr := write_any (lnTxt ws all[n]) acc (by simp only [List.length_append] at hT ⊢; omega)
    have st : report_table_l2_step ws.length (encT all) ((all.length : Nat) : Int) (((n : Nat) : Int), encN ws, acc.length, byteAVs acc) = some (.inl (((n + 1 : Nat) : Int), encN ws, (acc ++ lnTxt ws all[n]).length, byteAVs (acc ++ lnTxt ws all[n]))) := by
      have d1 : ((n : Nat) : Int) < ((all.length : Nat) : Int) := by omega
      have d2 : ((n : Nat) : Int) > 0 := by omega
      have d4 : (0 : Int) ≤ ((n : Nat) : Int) := by omega
      have d5 : ws.length ≤ 4398046511104 := by omega
      have d6 : (0 : Int) ≤ ((ws.length - 1 : Nat) : Int) := by omega
      have d7 : ((ws.length - 1 : Nat) : Int) ≤ ((ws.length : Nat) : Int) := by omega
      have d8 : 0 + ws.length ≤ (encS (padRow ws all[n])).length := by rw [encS_len]; omega
      have e16 : report_table_l2_v16 ws.length (encT all) ((all.length : Nat) : Int) ((n : Nat) : Int) (encN ws) acc.length (byteAVs acc) = (encN ws, acc.length, encS (padRow ws all[n]), byteAVs acc) := by
        unfold report_table_l2_v16; rw [e17]; rfl
      have e12 : report_table_l2_v12 ws.length (encT all) ((all.length : Nat) : Int) ((n : Nat) : Int) (encN ws) acc.length (byteAVs acc) = encS (padRow ws all[n]) := by
        unfold report_table_l2_v12 report_table_l2_v13 report_table_l2_v14; rw [e16]
      have e11 : report_table_l2_v11 ws.length (encT all) ((all.length : Nat) : Int) ((n : Nat) : Int) (encN ws) acc.length (byteAVs acc) = some ((((lnTxt ws all[n]).length : Nat) : Int), (acc ++ lnTxt ws all[n]).length, byteAVs (acc ++ lnTxt ws all[n])) := by
        unfold report_table_l2_v11
        rw [e12, e18, eline]
        unfold report_table_l2_v13 report_table_l2_v14
        rw [e16]
        exact ewr
      have e15 : report_table_l2_v15 ws.length (encT all) ((all.length : Nat) : Int) ((n : Nat) : Int) (encN ws) acc.length (byteAVs acc) = encN ws := by
        unfold report_table_l2_v15; rw [e16]
      have e8 : report_table_l2_v8 ws.length (encT all) ((all.length : Nat) : Int) ((n : Nat) : Int) (encN ws) acc.length (byteAVs acc) = (acc ++ lnTxt ws all[n]).length := by
        unfold report_table_l2_v8 report_table_l2_v10; rw [e11]; rfl
      have e9 : report_table_l2_v9 ws.length (encT all) ((all.length : Nat) : Int) ((n : Nat) : Int) (encN ws) acc.length (byteAVs acc) = byteAVs (acc ++ lnTxt ws all[n]) := by
        unfold report_table_l2_v9 report_table_l2_v10; rw [e11]; rfl
      unfold report_table_l2_step
      simp only
      unfold report_table_l2_t
      rw [e18, e17, e12, e11, e15, e8, e9, ew, eline, encT_len, Int.toNat_natCast, encT_get all h1, wrap_nat (show n + 1 ≤ maxLen by unfold maxLen; omega)]
      rw [decide_eq_true d1, decide_eq_true d4, decide_eq_true d2, decide_eq_true d5, decide_eq_true d6, decide_eq_true d7, decide_eq_true d8, decide_eq_true h1]
      rfl
    rw [iter_step st, l2_loop k (n + 1) _ (by omega) (by omega) hT]
end

section
variable (head : List Sx) (rest : List (List Sx)) (N : Nat) (hN1 : 1 ≤ N) (hN2 : N ≤ 1073741824) (hh : head.length = N) (hr : ∀ r, r ∈ rest → r.length = N) (hR : (head :: rest).length ≤ 1073741824)

/-- The widths of a table's columns. -/
def widthsOf (all : List (List Sx)) (N : Nat) : List Nat := all.foldl stepW (List.replicate N 0)

theorem fold_len : ∀ (all : List (List Sx)) (ws : List Nat) (N : Nat), (∀ r, r ∈ all → r.length = N) → ws.length = N → (all.foldl stepW ws).length = N
  | [], ws, N, _, h => h
  | r :: l, ws, N, hr, h => fold_len l _ N (fun r hr' => hr r (by simp [hr'])) (by rw [stepW_len (by rw [h, hr r (by simp)]), hr r (by simp)])

theorem stepW_get {ws : List Nat} {r : List Sx} {i : Nat} (a : i < ws.length) (b : i < r.length) : (stepW ws r).getD i 0 = max ws[i] r[i].length := by
  have h : i < (stepW ws r).length := by simp [stepW]; omega
  rw [List.getD_eq_getElem?_getD, List.getElem?_eq_getElem h]
  simp [stepW]

theorem fold_ge : ∀ (all : List (List Sx)) (ws : List Nat) (N : Nat), (∀ r, r ∈ all → r.length = N) → ws.length = N → ∀ (i : Nat), ws.getD i 0 ≤ (all.foldl stepW ws).getD i 0
  | [], ws, N, _, h, i => Nat.le_refl _
  | r :: l, ws, N, hr, h, i => by
    have h0 := hr r (by simp)
    refine Nat.le_trans ?_ (fold_ge l (stepW ws r) N (fun r hr' => hr r (by simp [hr'])) (by rw [stepW_len (by omega)]; omega) i)
    by_cases hi : i < N
    · have a : i < ws.length := by omega
      have b : i < r.length := by omega
      rw [stepW_get a b, List.getD_eq_getElem?_getD, List.getElem?_eq_getElem a]
      exact Nat.le_max_left _ _
    · simp [List.getD_eq_getElem?_getD, List.getElem?_eq_none (show ws.length ≤ i by omega)]

theorem fold_fit : ∀ (all : List (List Sx)) (ws : List Nat) (N : Nat), (∀ r, r ∈ all → r.length = N) → ws.length = N → ∀ r, r ∈ all → Fit (all.foldl stepW ws) r
  | [], ws, N, _, h, r, hm => by simp at hm
  | q :: l, ws, N, hr, h, r, hm => by
    have h0 := hr q (by simp)
    have hl : (stepW ws q).length = N := by rw [stepW_len (by omega)]; omega
    have hr' : ∀ r, r ∈ l → r.length = N := fun r hr' => hr r (by simp [hr'])
    rcases List.mem_cons.1 hm with rfl | hm
    · refine ⟨by rw [List.foldl_cons, fold_len l _ N hr' hl, h0], fun i h1 h2 => ?_⟩
      have g := fold_ge l (stepW ws r) N hr' hl i
      rw [List.foldl_cons] at h2
      have a : i < ws.length := by omega
      rw [stepW_get a h1, List.getD_eq_getElem?_getD, List.getElem?_eq_getElem h2, Option.getD_some] at g
      exact Nat.le_trans (Nat.le_max_right _ _) g
    · exact fold_fit l _ N hr' hl r hm
end

/-- THE TABLE, as report.table writes it. -/
theorem table_ok (head : List Sx) (rest : List (List Sx)) (N : Nat) (hN1 : 1 ≤ N) (hN2 : N ≤ 1073741824) (hh : head.length = N) (hr : ∀ r, r ∈ rest → r.length = N) (hR : rest.length < 1073741824)
    (hT : (tabTxt head rest (widthsOf (head :: rest) N)).length ≤ 70368744177664) : report_table (encT (head :: rest)) = some (tabTxt head rest (widthsOf (head :: rest) N)) := by
  have hall : ∀ r, r ∈ head :: rest → r.length = N := fun r h => by
    rcases List.mem_cons.1 h with rfl | h
    · exact hh
    · exact hr r h
  have hwl : (widthsOf (head :: rest) N).length = N := fold_len _ _ N hall (by simp)
  have hfit : ∀ r, r ∈ head :: rest → Fit (widthsOf (head :: rest) N) r := fold_fit _ _ N hall (by simp)
  have hrw := w_rows (encT (head :: rest)) (head :: rest) N hall hN2 (by simp; omega) (head :: rest).length 0 (List.replicate N 0) (by omega) (by simp)
  rw [List.drop_zero] at hrw
  change Iter _ _ = some (encN (widthsOf (head :: rest) N)) at hrw
  have hz : encN (List.replicate N 0) = List.replicate N (AV.int IntKind.i64 0) := by simp [encN]
  rw [hz] at hrw
  generalize widthsOf (head :: rest) N = ws at *
  subst hwl
  have hmk : ∀ (l : List Nat) (w : Nat), w ∈ l → w ≤ (joinTail [45, 43, 45] (l.map mk)).length := by
    intro l
    induction l with
    | nil => intro w h; simp at h
    | cons a l ih =>
      intro w h
      have e : (joinTail [45, 43, 45] ((a :: l).map mk)).length = 3 + a + (joinTail [45, 43, 45] (l.map mk)).length := by
        simp [joinTail, mk_len]; omega
      rw [e]
      rcases List.mem_cons.1 h with rfl | h
      · omega
      · have := ih w h; omega
  have hmk2 : ∀ w, w ∈ ws → w ≤ (mkTxt ws).length := by
    intro w h
    cases ws with
    | nil => simp at h
    | cons a l =>
      have e : (mkTxt (a :: l)).length = a + (joinTail [45, 43, 45] (l.map mk)).length + 1 := by
        simp [mkTxt, join_cons, mk_len]; omega
      rw [e]
      rcases List.mem_cons.1 h with rfl | h
      · omega
      · have := hmk l w h; omega
  have hTT := hT
  simp only [tabTxt, List.length_append] at hTT
  have hw : ∀ w, w ∈ ws → w ≤ 70368744177664 := fun w h => by have := hmk2 w h; omega
  have hf := hfit head (by simp)
  have hl := hf.1
  have hp := padRow_len ws head hl
  have e16 : report_table_v16 (encT (head :: rest)) = ws.length := by
    unfold report_table_v16
    rw [encT_get (head :: rest) (show 0 < _ by simp), List.getElem_cons_zero, hl]
    exact encS_len _
  have e14 : report_table_v14 (encT (head :: rest)) = ((ws.length : Nat) : Int) := by unfold report_table_v14; rw [e16]
  have e14n : (report_table_v14 (encT (head :: rest))).toNat = ws.length := by rw [e14]; exact Int.toNat_natCast _
  have ew : IntKind.i64.wrap (((ws.length : Nat) : Int) - 1) = ((ws.length - 1 : Nat) : Int) := by
    rw [wrap_i64 (by omega) (by omega)]; omega
  have hpad := pad_f ws head hf (by omega) hw 0 (encT (head :: rest)) (((head :: rest).length : Nat) : Int) 0 (head.length - 1) (by omega) (head.length - 1) 0 (by omega)
  simp only [List.take_zero, List.drop_zero, List.nil_append] at hpad
  rw [encS_pad, ← hl] at hpad
  have hrw' : Iter (report_table_l0_step (encT (head :: rest)) ws.length (encT (head :: rest)) (↑(encT (head :: rest)).length : Int)) ((0 : Int), List.replicate ws.length (AV.int IntKind.i64 (0 : Int))) = some (encN ws) := by
    rw [encT_len]; exact hrw
  have e13 : report_table_v13 (encT (head :: rest)) = some (encN ws, encS (padRow ws head)) := by
    unfold report_table_v13
    rw [e14n, e14, ew, e16, hrw', encT_len, Int.toNat_natCast, Nat.sub_zero, encT_get (head :: rest) (show 0 < _ by simp), List.getElem_cons_zero]
    exact hpad
  have e12 : report_table_v12 (encT (head :: rest)) = (encN ws, encS (padRow ws head)) := by unfold report_table_v12; rw [e13]; rfl
  have e11 : report_table_v11 (encT (head :: rest)) = encS (padRow ws head) := by unfold report_table_v11; rw [e12]
  have eline : report_line [32, 124, 32] (List.take ws.length (List.drop 0 (encS (padRow ws head)))) = some (lnTxt ws head) := by
    rw [take_encS _ _ (by omega)]
    refine line_any _ _ (by omega) ?_
    simp only [lnTxt, List.length_append] at hTT; omega
  have e15 : report_table_v15 (encT (head :: rest)) = ((lnTxt ws head).length, byteAVs (lnTxt ws head)) := by
    unfold report_table_v15
    rw [e16, e11, eline]
    simp only [Option.getD_some]
    rw [write_first _ (by omega)]
    rfl
  have hmloop := marks_loop ws head hf (by omega) hw (encS (padRow ws head)) (by rw [encS_len]; omega) (encT (head :: rest)) (((head :: rest).length : Nat) : Int) 0 (lnTxt ws head).length (byteAVs (lnTxt ws head)) ws.length 0 (by omega)
  simp only [List.take_zero, List.drop_zero, List.nil_append] at hmloop
  have e10 : report_table_v10 (encT (head :: rest)) = some (encN ws, (lnTxt ws head).length, encS (ws.map mk), byteAVs (lnTxt ws head)) := by
    unfold report_table_v10
    rw [e14n, e14, e16, e12, e15, e11, encT_len]
    exact hmloop
  have e9 : report_table_v9 (encT (head :: rest)) = (encN ws, (lnTxt ws head).length, encS (ws.map mk), byteAVs (lnTxt ws head)) := by unfold report_table_v9; rw [e10]; rfl
  have e6 : report_table_v6 (encT (head :: rest)) = encS (ws.map mk) := by unfold report_table_v6 report_table_v7 report_table_v8; rw [e9]
  have e5 : report_table_v5 (encT (head :: rest)) = some (mkTxt ws) := by
    unfold report_table_v5
    rw [e16, e6, take_encS _ _ (by simp)]
    refine line_any _ _ (by simp; omega) ?_
    simp only [mkTxt, List.length_append] at hTT; omega
  have e4 : report_table_v4 (encT (head :: rest)) = some ((((mkTxt ws).length : Nat) : Int), (lnTxt ws head ++ mkTxt ws).length, byteAVs (lnTxt ws head ++ mkTxt ws)) := by
    unfold report_table_v4 report_table_v7 report_table_v8
    rw [e5, e9]
    exact write_any (mkTxt ws) (lnTxt ws head) (by rw [List.length_append]; omega)
  have e3 : report_table_v3 (encT (head :: rest)) = ((lnTxt ws head ++ mkTxt ws).length, byteAVs (lnTxt ws head ++ mkTxt ws)) := by unfold report_table_v3; rw [e4]; rfl
  have hl2 := l2_loop ws hN1 hN2 hw (head :: rest) hfit (by simp; omega) rest.length 1 (lnTxt ws head ++ mkTxt ws) (by simp; omega) (by omega) hT
  have e2 : report_table_v2 (encT (head :: rest)) = some ((tabTxt head rest ws).length, byteAVs (tabTxt head rest ws)) := by
    unfold report_table_v2
    rw [e14n, e9, e3, encT_len]
    exact hl2
  have e1 : report_table_v1 (encT (head :: rest)) = ((tabTxt head rest ws).length, byteAVs (tabTxt head rest ws)) := by unfold report_table_v1; rw [e2]; rfl
  have e0 : report_table_v0 (encT (head :: rest)) = byteAVs (tabTxt head rest ws) := by unfold report_table_v0; rw [e1]
  have e17 : report_table_v17 (encT (head :: rest)) = true := by
    unfold report_table_v17; rw [encT_len]; exact decide_eq_true (by simp only [List.length_cons]; omega)
  have e18 : report_table_v18 (encT (head :: rest)) = true := by
    unfold report_table_v18
    rw [encT_len, encT_get (head :: rest) (show 0 < _ by simp), decide_eq_true (show 0 < (head :: rest).length by simp)]
    rfl
  have hne : (tabTxt head rest ws).length ≠ 0 := by
    simp only [tabTxt, lnTxt, List.length_append, List.length_cons, List.length_nil]; omega
  unfold report_table report_table_t
  have ewf := write_first (lnTxt ws head) (by omega)
  have d1 : (8 : Int) * ((ws.length : Nat) : Int) ≤ 281474976710656 := by omega
  have d2 : ((ws.length : Nat) : Int) ≤ 4611686018427387904 := by omega
  have d3 : ws.length ≤ 4398046511104 := by omega
  have d4 : (0 : Int) ≤ ((ws.length - 1 : Nat) : Int) := by omega
  have d5 : ((ws.length - 1 : Nat) : Int) ≤ ((ws.length : Nat) : Int) := by omega
  have d6 : 0 + ws.length ≤ (encS (padRow ws head)).length := by rw [encS_len]; omega
  have d7 : 0 + ws.length ≤ (encS (ws.map mk)).length := by rw [encS_len]; simp
  have d8 : ((ws.length : Nat) : Int) ≤ ((ws.length : Nat) : Int) := Int.le_refl _
  have d9 : (tabTxt head rest ws).length = (byteAVs (tabTxt head rest ws)).length := (byteAVs_length _).symm
  have d10 : (byteAVs (tabTxt head rest ws)).length ≠ 0 := by rw [byteAVs_length]; exact hne
  rw [e17, e18, e14, e16, Int.toNat_natCast, hrw', e13, e11, eline]
  simp only [Option.getD_some, Option.isSome_some]
  rw [ewf, e10, e6, e5, e4, e2, e1, e0, ew]
  simp only
  rw [decide_eq_true d1, decide_eq_true d2, decide_eq_true d3, decide_eq_true d4, decide_eq_true d5, decide_eq_true d6, decide_eq_true d7, decide_eq_true d8, decide_eq_true d9, decide_eq_true d10, isBytes_byteAVs, strOf_byteAVs]
  rfl
end Go.Sim.M
