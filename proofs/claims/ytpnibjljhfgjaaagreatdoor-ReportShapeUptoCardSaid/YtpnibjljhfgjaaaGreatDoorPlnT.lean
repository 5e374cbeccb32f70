/- Tables: report.table. -/
import Derived.Test.YtpnibjljhfgjaaaGreatDoorPlnB
set_option linter.unusedVariables false
set_option linter.unusedSimpArgs false
set_option maxRecDepth 100000
namespace Go.Sim.M
open Go.RowKit Go.Lib

abbrev Sx := List UInt8
def encS (r : List Sx) : List AV := r.map AV.str
def encT (rows : List (List Sx)) : List AV := rows.map fun r => AV.list 1 (encS r)
def encN (ws : List Nat) : List AV := ws.map fun w => AV.int .i64 ((w : Nat) : Int)

def stepW (ws : List Nat) (r : List Sx) : List Nat := List.zipWith (fun w s => max w s.length) ws r
def pd (w : Nat) (s : Sx) : Sx := s ++ repeatL [32] (w - s.length)
def mk (w : Nat) : Sx := repeatL [45] w
/-- A row, padded but for its last cell. -/
def padRow (ws : List Nat) (r : List Sx) : List Sx := (List.zipWith pd ws r).take (r.length - 1) ++ r.drop (r.length - 1)
def lnTxt (ws : List Nat) (r : List Sx) : Sx := join (padRow ws r) [32, 124, 32] ++ [10]
def mkTxt (ws : List Nat) : Sx := join (ws.map mk) [45, 43, 45] ++ [10]
def rowsTxt (ws : List Nat) : List (List Sx) → Sx
  | [] => []
  | r :: l => lnTxt ws r ++ rowsTxt ws l
def tabTxt (head : List Sx) (rows : List (List Sx)) (ws : List Nat) : Sx := lnTxt ws head ++ mkTxt ws ++ rowsTxt ws rows

theorem mid_len {α : Type} {A B : List α} (h : A.length = B.length) (k : Nat) : (A.take k ++ B.drop k).length = B.length := by
  simp only [List.length_append, List.length_take, List.length_drop]; omega
theorem mid_get {α : Type} {A B : List α} (d : α) (h : A.length = B.length) {k : Nat} (hk : k < B.length) : (A.take k ++ B.drop k).getD k d = B[k] := by
  rw [List.getD_eq_getElem?_getD, List.getElem?_append_right (by simp only [List.length_take]; omega), List.length_take, Nat.min_eq_left (by omega)]
  simp [hk]
theorem mid_set {α : Type} {A B : List α} (h : A.length = B.length) {k : Nat} (hk : k < B.length) : (A.take k ++ B.drop k).set k (A[k]'(by omega)) = A.take (k + 1) ++ B.drop (k + 1) := by
  apply List.ext_getElem
  · simp; omega
  · intro i h1 h2
    simp only [List.getElem_set, List.getElem_append, List.length_take, List.getElem_take, List.getElem_drop]
    rcases Nat.lt_trichotomy i k with hi | hi | hi
    · rw [if_neg (by omega), dif_pos (by omega), dif_pos (by omega)]
    · subst hi; rw [if_pos rfl, dif_pos (by omega)]
    · rw [if_neg (by omega), dif_neg (by omega), dif_neg (by omega)]
      congr 1; omega

theorem stepW_len {ws : List Nat} {r : List Sx} (h : ws.length = r.length) : (stepW ws r).length = r.length := by simp [stepW, h]
theorem max_int (l w : Nat) : (if ((l : Nat) : Int) > ((w : Nat) : Int) then ((l : Nat) : Int) else ((w : Nat) : Int)) = ((max w l : Nat) : Int) := by
  split <;> omega
theorem encS_len (r : List Sx) : (encS r).length = r.length := by simp [encS]
theorem encN_len (r : List Nat) : (encN r).length = r.length := by simp [encN]
theorem encT_len (r : List (List Sx)) : (encT r).length = r.length := by simp [encT]
theorem encS_get (r : List Sx) {k : Nat} (h : k < r.length) : (encS r).getD k .top = .str r[k] := getD_map _ _ _ h
theorem encT_get (r : List (List Sx)) {k : Nat} (h : k < r.length) : (encT r).getD k .top = .list 1 (encS r[k]) := getD_map (fun r => AV.list 1 (encS r)) _ _ h

/-- The widths of one more row. -/
theorem w_row (rows : List AV) (t19 : List AV) (t20 t21 : Int) (ws : List Nat) (r : List Sx) (hl : ws.length = r.length) (hn : r.length ≤ 1073741824) :
    ∀ (k n : Nat), n + k = r.length → Iter (report_table_l1_step rows r.length t19 t20 t21 (encS r) ((r.length : Nat) : Int)) (((n : Nat) : Int), (encN (stepW ws r)).take n ++ (encN ws).drop n) = some (encN (stepW ws r))
  | 0, n, hk => by
    obtain rfl : n = r.length := by omega
    have e : (encN (stepW ws r)).take r.length ++ (encN ws).drop r.length = encN (stepW ws r) := by
      rw [List.take_of_length_le (by simp [encN_len, stepW_len hl]), List.drop_eq_nil_of_le (by simp [encN_len, hl]), List.append_nil]
    rw [e]
    refine iter_end ?_
    simp [report_table_l1_step, report_table_l1_t, br_if]
  | k + 1, n, hk => by
    have h1 : n < r.length := by omega
    have hA : (encN (stepW ws r)).length = (encN ws).length := by simp [encN_len, stepW_len hl, hl]
    have hB : n < (encN ws).length := by simp [encN_len, hl, h1]
    have hw : (encN ws)[n] = AV.int .i64 (((ws[n]'(by omega)) : Nat) : Int) := by simp [encN]
    have hs : (encN (stepW ws r))[n]'(by omega) = AV.int .i64 ((max (ws[n]'(by omega)) (r[n]).length : Nat) : Int) := by simp [encN, stepW]
    have g := mid_get .top hA hB
    have m := mid_set hA hB
    rw [hs] at m
    have l := mid_len hA n
    rw [encN_len] at l
    have st : report_table_l1_step rows r.length t19 t20 t21 (encS r) ((r.length : Nat) : Int) (((n : Nat) : Int), (encN (stepW ws r)).take n ++ (encN ws).drop n) = some (.inl (((n + 1 : Nat) : Int), (encN (stepW ws r)).take (n + 1) ++ (encN ws).drop (n + 1))) := by
      simp only [report_table_l1_step, report_table_l1_t, report_table_l1_v0, br_if, Int.toNat_natCast, Nat.zero_add, encS_get r h1, encS_len, g, hw, l, wrap_nat (show n + 1 ≤ maxLen by unfold maxLen; omega)]
      have c : ((AV.str r[n]).cells.getD 0 AV.top).toStr.length = r[n].length := rfl
      have c' : ((AV.int .i64 (((ws[n]'(by omega)) : Nat) : Int)).cells.getD 0 AV.top).toInt = (((ws[n]'(by omega)) : Nat) : Int) := rfl
      rw [c, c', max_int, m]
      have : ((n : Nat) : Int) < (r.length : Int) := by omega
      have h2 : n < ws.length := by omega
      simp [this, h1, h2]
      exact ⟨rfl, rfl⟩
    rw [iter_step st, w_row rows t19 t20 t21 ws r hl hn k (n + 1) (by omega)]

/-- The widths of some rows. -/
theorem w_rows (rows : List AV) (all : List (List Sx)) (N : Nat) (hN : ∀ r, r ∈ all → r.length = N) (hn : N ≤ 1073741824) (hR : all.length ≤ 1073741824) :
    ∀ (k n : Nat) (ws : List Nat), n + k = all.length → ws.length = N → Iter (report_table_l0_step rows N (encT all) ((all.length : Nat) : Int)) (((n : Nat) : Int), encN ws) = some (encN ((all.drop n).foldl stepW ws))
  | 0, n, ws, hk, hw => by
    obtain rfl : n = all.length := by omega
    rw [List.drop_length]
    refine iter_end ?_
    simp [report_table_l0_step, report_table_l0_t, br_if]
  | k + 1, n, ws, hk, hw => by
    have h1 : n < all.length := by omega
    have hr := hN all[n] (List.getElem_mem h1)
    have hi := w_row rows (encT all) ((all.length : Nat) : Int) ((n : Nat) : Int) ws all[n] (by omega) (by omega) all[n].length 0 (by omega)
    simp only [List.take_zero, List.drop_zero, List.nil_append] at hi
    rw [hr] at hi
    have st : report_table_l0_step rows N (encT all) ((all.length : Nat) : Int) (((n : Nat) : Int), encN ws) = some (.inl (((n + 1 : Nat) : Int), encN (stepW ws all[n]))) := by
      simp only [report_table_l0_step, report_table_l0_t, report_table_l0_v0, br_if, Int.toNat_natCast, encT_get all h1, encT_len, wrap_nat (show n + 1 ≤ maxLen by unfold maxLen; omega)]
      have c : ((AV.list 1 (encS all[n])).cells.getD 0 AV.top).toList = encS all[n] := rfl
      rw [c, encS_len, hr, show ((0 : Int)) = ((0 : Nat) : Int) from rfl, hi]
      have : ((n : Nat) : Int) < (all.length : Int) := by omega
      simp [this, h1]
      rfl
    rw [iter_step st, w_rows rows all N hN hn hR k (n + 1) _ (by omega) (by rw [stepW_len (by omega)]; omega), drop_cons h1, List.foldl_cons]

theorem pd_len (w : Nat) (s : Sx) (h : s.length ≤ w) : (pd w s).length = w := by
  simp only [pd, List.length_append, repeatL_length, List.length_cons, List.length_nil]; omega
theorem mk_len (w : Nat) : (mk w).length = w := by simp [mk, repeatL_length]

/-- Every cell of a row fits its column. -/
def Fit (ws : List Nat) (r : List Sx) : Prop := ws.length = r.length ∧ ∀ (i : Nat) (h : i < r.length) (h' : i < ws.length), r[i].length ≤ ws[i]

section
variable (ws : List Nat) (r : List Sx) (hf : Fit ws r) (hn : r.length ≤ 1073741824) (hw : ∀ w, w ∈ ws → w ≤ 70368744177664)
include hf hn hw

theorem pad_f (N : Int) (t44 : List AV) (t45 t46 : Int) (m : Nat) (hm : m ≤ r.length) :
    ∀ (k n : Nat), n + k = m → Iter (report_table_l3f_step ws.length N r.length t44 t45 t46 ((m : Nat) : Int)) (((n : Nat) : Int), encN ws, (encS (List.zipWith pd ws r)).take n ++ (encS r).drop n) = some (encN ws, (encS (List.zipWith pd ws r)).take m ++ (encS r).drop m)
  | 0, n, hk => by
    obtain rfl : n = m := by omega
    refine iter_end ?_
    simp [report_table_l3f_step, report_table_l3f_t, br_if]
  | k + 1, n, hk => by
    have h1 : n < r.length := by omega
    have h2 : n < ws.length := by rw [hf.1]; exact h1
    have hA : (encS (List.zipWith pd ws r)).length = (encS r).length := by simp [encS_len, hf.1]
    have hB : n < (encS r).length := by simp [encS_len, h1]
    have hr : (encS r)[n] = AV.str r[n] := by simp [encS]
    have hs : (encS (List.zipWith pd ws r))[n]'(by omega) = AV.str (pd ws[n] r[n]) := by simp [encS]
    have g := mid_get .top hA hB
    have e := mid_set hA hB
    rw [hs] at e
    have l := mid_len hA n
    rw [encS_len] at l
    have gw : (encN ws).getD n .top = AV.int .i64 ((ws[n] : Nat) : Int) := getD_map _ _ _ h2
    have b1 := hf.2 n h1 h2
    have b2 := hw ws[n] (List.getElem_mem h2)
    have st : report_table_l3f_step ws.length N r.length t44 t45 t46 ((m : Nat) : Int) (((n : Nat) : Int), encN ws, (encS (List.zipWith pd ws r)).take n ++ (encS r).drop n) = some (.inl (((n + 1 : Nat) : Int), encN ws, (encS (List.zipWith pd ws r)).take (n + 1) ++ (encS r).drop (n + 1))) := by
      simp only [report_table_l3f_step, report_table_l3f_t, report_table_l3f_v0, report_table_l3f_v1, br_if, Int.toNat_natCast, Nat.zero_add, g, hr, l, gw, encN_len, wrap_nat (show n + 1 ≤ maxLen by unfold maxLen; omega)]
      have c : ((AV.str r[n]).cells.getD 0 AV.top).toStr = r[n] := rfl
      have c' : ((AV.int .i64 ((ws[n] : Nat) : Int)).cells.getD 0 AV.top).toInt = ((ws[n] : Nat) : Int) := rfl
      rw [c, c', Int.toNat_natCast]
      unfold pd at e
      unfold pd
      rw [e]
      have d1 : ((n : Nat) : Int) < ((m : Nat) : Int) := by omega
      have d2 : ((n : Nat) : Int) < ((r.length : Nat) : Int) := by omega
      have d3 : ((n : Nat) : Int) < ((ws.length : Nat) : Int) := by omega
      have d4 : (0 : Int) ≤ ((n : Nat) : Int) := by omega
      have d5 : ((r[n].length : Nat) : Int) ≤ ((ws[n] : Nat) : Int) := by omega
      have d6 : ((ws[n] : Nat) : Int) ≤ 140737488355328 := by omega
      rw [if_pos (decide_eq_true d1), if_pos (by rw [decide_eq_true d4, decide_eq_true d2]; rfl), if_pos (by rw [decide_eq_true h1]; rfl), if_pos (by rw [decide_eq_true d4, decide_eq_true d3]; rfl), if_pos (by rw [decide_eq_true h2]; rfl), if_pos (by rw [decide_eq_true d5, decide_eq_true d6]; rfl), if_pos (by rw [decide_eq_true d4, decide_eq_true d2]; rfl), if_pos (decide_eq_true h1)]
    rw [iter_step st, pad_f N t44 t45 t46 m hm k (n + 1) (by omega)]

theorem pad_u (N : Int) (t44 : List AV) (t45 t46 : Int) (b : Nat) (buf : List AV) (m : Nat) (hm : m ≤ r.length) :
    ∀ (k n : Nat), n + k = m → Iter (report_table_l3u_step ws.length N r.length t44 t45 t46 ((m : Nat) : Int)) (((n : Nat) : Int), encN ws, b, (encS (List.zipWith pd ws r)).take n ++ (encS r).drop n, buf) = some (encN ws, b, (encS (List.zipWith pd ws r)).take m ++ (encS r).drop m, buf)
  | 0, n, hk => by
    obtain rfl : n = m := by omega
    refine iter_end ?_
    simp [report_table_l3u_step, report_table_l3u_t, br_if]
  | k + 1, n, hk => by
    have h1 : n < r.length := by omega
    have h2 : n < ws.length := by rw [hf.1]; exact h1
    have hA : (encS (List.zipWith pd ws r)).length = (encS r).length := by simp [encS_len, hf.1]
    have hB : n < (encS r).length := by simp [encS_len, h1]
    have hr : (encS r)[n] = AV.str r[n] := by simp [encS]
    have hs : (encS (List.zipWith pd ws r))[n]'(by omega) = AV.str (pd ws[n] r[n]) := by simp [encS]
    have g := mid_get .top hA hB
    have e := mid_set hA hB
    rw [hs] at e
    have l := mid_len hA n
    rw [encS_len] at l
    have gw : (encN ws).getD n .top = AV.int .i64 ((ws[n] : Nat) : Int) := getD_map _ _ _ h2
    have b1 := hf.2 n h1 h2
    have b2 := hw ws[n] (List.getElem_mem h2)
    have st : report_table_l3u_step ws.length N r.length t44 t45 t46 ((m : Nat) : Int) (((n : Nat) : Int), encN ws, b, (encS (List.zipWith pd ws r)).take n ++ (encS r).drop n, buf) = some (.inl (((n + 1 : Nat) : Int), encN ws, b, (encS (List.zipWith pd ws r)).take (n + 1) ++ (encS r).drop (n + 1), buf)) := by
      simp only [report_table_l3u_step, report_table_l3u_t, report_table_l3u_v0, report_table_l3u_v1, br_if, Int.toNat_natCast, Nat.zero_add, g, hr, l, gw, encN_len, wrap_nat (show n + 1 ≤ maxLen by unfold maxLen; omega)]
      have c : ((AV.str r[n]).cells.getD 0 AV.top).toStr = r[n] := rfl
      have c' : ((AV.int .i64 ((ws[n] : Nat) : Int)).cells.getD 0 AV.top).toInt = ((ws[n] : Nat) : Int) := rfl
      rw [c, c', Int.toNat_natCast]
      unfold pd at e
      unfold pd
      rw [e]
      have d1 : ((n : Nat) : Int) < ((m : Nat) : Int) := by omega
      have d2 : ((n : Nat) : Int) < ((r.length : Nat) : Int) := by omega
      have d3 : ((n : Nat) : Int) < ((ws.length : Nat) : Int) := by omega
      have d4 : (0 : Int) ≤ ((n : Nat) : Int) := by omega
      have d5 : ((r[n].length : Nat) : Int) ≤ ((ws[n] : Nat) : Int) := by omega
      have d6 : ((ws[n] : Nat) : Int) ≤ 140737488355328 := by omega
      rw [if_pos (decide_eq_true d1), if_pos (by rw [decide_eq_true d4, decide_eq_true d2]; rfl), if_pos (by rw [decide_eq_true h1]; rfl), if_pos (by rw [decide_eq_true d4, decide_eq_true d3]; rfl), if_pos (by rw [decide_eq_true h2]; rfl), if_pos (by rw [decide_eq_true d5, decide_eq_true d6]; rfl), if_pos (by rw [decide_eq_true d4, decide_eq_true d2]; rfl), if_pos (decide_eq_true h1)]
    rw [iter_step st, pad_u N t44 t45 t46 b buf m hm k (n + 1) (by omega)]

/-- The marks under the names. -/
theorem marks_loop (cs : List AV) (hc : cs.length = ws.length) (t44 : List AV) (t45 t46 : Int) (b : Nat) (buf : List AV) :
    ∀ (k n : Nat), n + k = ws.length → Iter (report_table_l4_step ws.length ws.length t44 t45 t46 ((ws.length : Nat) : Int)) (((n : Nat) : Int), encN ws, b, (encS (ws.map mk)).take n ++ cs.drop n, buf) = some (encN ws, b, encS (ws.map mk), buf)
  | 0, n, hk => by
    obtain rfl : n = ws.length := by omega
    have e : (encS (ws.map mk)).take ws.length ++ cs.drop ws.length = encS (ws.map mk) := by
      rw [List.take_of_length_le (by simp [encS_len]), List.drop_eq_nil_of_le (by omega), List.append_nil]
    rw [e]
    refine iter_end ?_
    simp [report_table_l4_step, report_table_l4_t, br_if]
  | k + 1, n, hk => by
    have h2 : n < ws.length := by omega
    have hA : (encS (ws.map mk)).length = cs.length := by simp [encS_len, hc]
    have hB : n < cs.length := by omega
    have hs : (encS (ws.map mk))[n]'(by omega) = AV.str (mk ws[n]) := by simp [encS]
    have e := mid_set hA hB
    rw [hs] at e
    have l := mid_len hA n
    have gw : (encN ws).getD n .top = AV.int .i64 ((ws[n] : Nat) : Int) := getD_map _ _ _ h2
    have b2 := hw ws[n] (List.getElem_mem h2)
    have hfl := hf.1
    have st : report_table_l4_step ws.length ws.length t44 t45 t46 ((ws.length : Nat) : Int) (((n : Nat) : Int), encN ws, b, (encS (ws.map mk)).take n ++ cs.drop n, buf) = some (.inl (((n + 1 : Nat) : Int), encN ws, b, (encS (ws.map mk)).take (n + 1) ++ cs.drop (n + 1), buf)) := by
      simp only [report_table_l4_step, report_table_l4_t, report_table_l4_v0, br_if, Int.toNat_natCast, Nat.zero_add, l, gw, encN_len, wrap_nat (show n + 1 ≤ maxLen by unfold maxLen; omega)]
      have c' : ((AV.int .i64 ((ws[n] : Nat) : Int)).cells.getD 0 AV.top).toInt = ((ws[n] : Nat) : Int) := rfl
      rw [c', Int.toNat_natCast]
      unfold mk at e
      unfold mk
      rw [e]
      have d3 : ((n : Nat) : Int) < ((ws.length : Nat) : Int) := by omega
      have d4 : (0 : Int) ≤ ((n : Nat) : Int) := by omega
      have d5 : (0 : Int) ≤ ((ws[n] : Nat) : Int) := by omega
      have d6 : ((ws[n] : Nat) : Int) ≤ 4611686018427387904 := by omega
      have d7 : 1 * ws[n] ≤ 140737488355328 := by omega
      have d8 : n < cs.length := hB
      rw [if_pos (decide_eq_true d3), if_pos (by rw [decide_eq_true d4, decide_eq_true d3]; rfl), if_pos (by rw [decide_eq_true h2]; rfl), if_pos (by rw [decide_eq_true d5, decide_eq_true d6, decide_eq_true d7]; rfl), if_pos (by rw [decide_eq_true d4, decide_eq_true d3]; rfl), if_pos (decide_eq_true d8)]
    rw [iter_step st, marks_loop cs hc t44 t45 t46 b buf k (n + 1) (by omega)]
end

theorem line_any (sep : Sx) (l : List Sx) (h1 : l.length ≤ 1073741824) (h2 : (join l sep).length ≤ 140737488355328) : report_line sep (encS l) = some (join l sep ++ [10]) := by
  have e : List.map AV.toStr (encS l) = l := by
    unfold encS
    rw [List.map_map]
    exact List.map_id l
  have e2 : (encS l).all AV.isStr = true := by simp [encS, AV.isStr]
  unfold report_line report_line_t
  rw [e, e2, encS_len]
  simp only [br_if]
  rw [if_pos (by simp; omega), if_pos (by simp; omega)]

theorem write_any (s acc : Sx) (h : (acc ++ s).length ≤ 140737488355328) : strings_Builder_WriteString_U0 s acc.length (byteAVs acc) = some (((s.length : Nat) : Int), (acc ++ s).length, byteAVs (acc ++ s)) := by
  unfold strings_Builder_WriteString_U0 strings_Builder_WriteString_U0_t
  rw [byteAVs_length, byteAVs_length, byteAVs_append, List.length_append]
  rw [List.length_append] at h
  simp only [br_if]
  rw [if_pos (by simp; omega)]
theorem write_first (s : Sx) (h : s.length ≤ 140737488355328) : strings_Builder_WriteString_F s = some (((s.length : Nat) : Int), s.length, byteAVs s) := by
  unfold strings_Builder_WriteString_F strings_Builder_WriteString_F_t
  rw [byteAVs_length]
  simp only [br_if]
  rw [if_pos (by simp; omega)]
end Go.Sim.M
