/- Names, cells and heads of tables. -/
import Derived.Test.YtpnibjljhfgjaaaGreatDoorPlnY
import Derived.Test.YtpnibjljhfgjaaaGreatDoorDoorZ
set_option linter.unusedVariables false
set_option linter.unusedSectionVars false
set_option linter.unusedSimpArgs false
set_option maxRecDepth 100000
namespace Go.Sim.M
open Go.RowKit Go.Lib

def namesOf (cs : List Col) : List Sx := cs.map (·.name)
theorem namesOf_len (cs : List Col) : (namesOf cs).length = cs.length := by simp [namesOf]

theorem encS_snoc (l : List Sx) (n : Nat) (h : n < l.length) : encS (l.take n) ++ [AV.str l[n]] = encS (l.take (n + 1)) := by
  rw [List.take_succ_eq_append_getElem h]; unfold encS; rw [List.map_append]; rfl

theorem col_get (cs : List Col) (n : Nat) (h : n < cs.length) : (cs.map encC).getD n .top = encC cs[n] := getD_map _ _ _ h

theorem rnames_loop (cs : List Col) (hn : cs.length ≤ 1073741824) : ∀ (k n : Nat), n + k = cs.length → Iter (report_names_M_l0_step (cs.map encC) ((cs.length : Nat) : Int)) (n, ((n : Nat) : Int), encS ((namesOf cs).take n)) = some (cs.length, encS (namesOf cs))
  | 0, n, hk => by
    obtain rfl : n = cs.length := by omega
    rw [List.take_of_length_le (by rw [namesOf_len]; omega)]
    refine iter_end ?_
    simp [report_names_M_l0_step, report_names_M_l0_t, br_if]
  | k + 1, n, hk => by
    have h1 : n < cs.length := by omega
    have h2 : n < (namesOf cs).length := by rw [namesOf_len]; exact h1
    have e : encS ((namesOf cs).take n) ++ [AV.str cs[n].name] = encS ((namesOf cs).take (n + 1)) := by
      rw [← encS_snoc _ _ h2]; simp [namesOf]
    have gc : (cs.map encC).getD ((n : Nat) : Int).toNat .top = encC cs[n] := by rw [Int.toNat_natCast]; exact col_get cs n h1
    have cs' : ((encC cs[n]).cells.getD 0 AV.top).toStr = cs[n].name := rfl
    have sh : ((encC cs[n]).cells.length == (3 : Nat) && hasShs [Sh.str, Sh.int IntKind.i64, Sh.bool] (encC cs[n]).cells (0 : Nat)) = true := rfl
    have ll : (encS ((namesOf cs).take n)).length = n := by rw [encS_len, List.length_take]; omega
    have d1 : ((n : Nat) : Int) < ((cs.length : Nat) : Int) := by omega
    have d2 : (0 : Int) ≤ ((n : Nat) : Int) := by omega
    have d3 : (n + 1) * 16 ≤ 140737488355328 := by omega
    have d4 : n + 1 ≤ 4611686018427387904 := by omega
    have d5 : (n == n) = true := by simp
    have st : report_names_M_l0_step (cs.map encC) ((cs.length : Nat) : Int) (n, ((n : Nat) : Int), encS ((namesOf cs).take n)) = some (.inl (n + 1, ((n + 1 : Nat) : Int), encS ((namesOf cs).take (n + 1)))) := by
      unfold report_names_M_l0_step
      simp only
      unfold report_names_M_l0_t
      rw [gc, cs', sh, e, ll, List.length_map, Int.toNat_natCast, decide_eq_true d1, decide_eq_true d2, decide_eq_true h1, decide_eq_true d3, decide_eq_true d4, d5, wrap_nat (show n + 1 ≤ maxLen by unfold maxLen; omega)]
      rfl
    rw [iter_step st, rnames_loop cs hn k (n + 1) (by omega)]

theorem rnames_ok (cs : List Col) (hn : cs.length ≤ 1073741824) : report_names_M (cs.map encC) = some (cs.length, encS (namesOf cs)) := by
  have h : Iter (report_names_M_l0_step (cs.map encC) (((cs.map encC).length : Nat) : Int)) ((0 : Nat), (0 : Int), []) = some (cs.length, encS (namesOf cs)) := by
    rw [List.length_map]; exact rnames_loop cs hn cs.length 0 (by omega)
  unfold report_names_M report_names_M_t report_names_M_v0
  rw [h]; rfl

theorem fnames_loop (cs : List Col) (hn : cs.length ≤ 1073741824) : ∀ (k n : Nat), n + k = cs.length → Iter (ref55_names_M_l0_step (cs.map encC)) (n, ((n : Nat) : Int), encS ((namesOf cs).take n)) = some (cs.length, encS (namesOf cs))
  | 0, n, hk => by
    obtain rfl : n = cs.length := by omega
    rw [List.take_of_length_le (by rw [namesOf_len]; omega)]
    refine iter_end ?_
    simp [ref55_names_M_l0_step, ref55_names_M_l0_t, br_if]
  | k + 1, n, hk => by
    have h1 : n < cs.length := by omega
    have h2 : n < (namesOf cs).length := by rw [namesOf_len]; exact h1
    have e : encS ((namesOf cs).take n) ++ [AV.str cs[n].name] = encS ((namesOf cs).take (n + 1)) := by
      rw [← encS_snoc _ _ h2]; simp [namesOf]
    have gc : (cs.map encC).getD ((n : Nat) : Int).toNat .top = encC cs[n] := by rw [Int.toNat_natCast]; exact col_get cs n h1
    have cs' : ((encC cs[n]).cells.getD 0 AV.top).toStr = cs[n].name := rfl
    have sh : hasSh1 Sh.str ((encC cs[n]).cells.getD 0 AV.top) = true := rfl
    have ll : (encS ((namesOf cs).take n)).length = n := by rw [encS_len, List.length_take]; omega
    have d1 : ((n : Nat) : Int) < ((cs.length : Nat) : Int) := by omega
    have d2 : (0 : Int) ≤ ((n : Nat) : Int) := by omega
    have d3 : (n + 1) * 16 ≤ 140737488355328 := by omega
    have d4 : n + 1 ≤ 4611686018427387904 := by omega
    have d5 : (n == n) = true := by simp
    have st : ref55_names_M_l0_step (cs.map encC) (n, ((n : Nat) : Int), encS ((namesOf cs).take n)) = some (.inl (n + 1, ((n + 1 : Nat) : Int), encS ((namesOf cs).take (n + 1)))) := by
      unfold ref55_names_M_l0_step
      simp only
      unfold ref55_names_M_l0_t
      rw [gc, cs', sh, e, ll, List.length_map, Int.toNat_natCast, decide_eq_true d1, decide_eq_true d2, decide_eq_true h1, decide_eq_true d3, decide_eq_true d4, d5, wrap_nat (show n + 1 ≤ maxLen by unfold maxLen; omega)]
      rfl
    rw [iter_step st, fnames_loop cs hn k (n + 1) (by omega)]

theorem fnames_ok (cs : List Col) (hn : cs.length ≤ 1073741824) : ref55_names_M (cs.map encC) = some (cs.length, encS (namesOf cs)) := by
  have h : Iter (ref55_names_M_l0_step (cs.map encC)) ((0 : Nat), (0 : Int), []) = some (cs.length, encS (namesOf cs)) := fnames_loop cs hn cs.length 0 (by omega)
  unfold ref55_names_M ref55_names_M_t ref55_names_M_v0
  rw [h]; rfl

/-- A row's cells. -/
noncomputable def cellAt (row : Row) (i : Nat) : Sx := match row[i]? with
  | some v => lit v
  | none => []
noncomputable def vals (row : Row) (n : Nat) : List Sx := (List.range n).map (cellAt row)
theorem vals_len (row : Row) (n : Nat) : (vals row n).length = n := by simp [vals]
theorem cellAt_len (row : Row) (hw : ∀ v, v ∈ row → v.wf) (i : Nat) : (cellAt row i).length ≤ 410 := by
  unfold cellAt
  split
  · rename_i v h
    exact lit_len v (hw v (List.mem_of_getElem? h)).2.2
  · simp

theorem mid_skip {α : Type} {A B : List α} (h : A.length = B.length) {k : Nat} (hk : k < B.length) (he : A[k]'(by omega) = B[k]) : A.take k ++ B.drop k = A.take (k + 1) ++ B.drop (k + 1) := by
  rw [List.take_succ_eq_append_getElem (by omega : k < A.length), he, drop_cons hk, List.append_assoc]; rfl

section
variable (row : Row) (hw : row.wf) (N : Nat) (hN : N ≤ 1073741824)
include hw hN

theorem val_cell (i : Nat) (h : i < row.length) : value_Literal row[i].k row[i].i row[i].t = some (cellAt row i) := by
  unfold cellAt; rw [List.getElem?_eq_getElem h]
  exact lit_val _ (hw.2 row[i] (List.getElem_mem h)).2.2
theorem ref_cell (i : Nat) (h : i < row.length) : ref07_Literal row[i].k row[i].i row[i].t = some (cellAt row i) := by
  unfold cellAt; rw [List.getElem?_eq_getElem h]
  exact lit_ref _ (hw.2 row[i] (List.getElem_mem h)).2.2

theorem valuesM_loop : ∀ (k n : Nat), n + k = N → Iter (report_values_M_l0_step (row.map encV) N ((N : Nat) : Int)) (((n : Nat) : Int), (encS (vals row N)).take n ++ (List.replicate N (AV.str [])).drop n) = some (encS (vals row N))
  | 0, n, hk => by
    obtain rfl : n = N := by omega
    rw [List.take_of_length_le (by rw [encS_len, vals_len]; omega), List.drop_eq_nil_of_le (by simp), List.append_nil]
    refine iter_end ?_
    simp [report_values_M_l0_step, report_values_M_l0_t, br_if]
  | k + 1, n, hk => by
    have hA : (encS (vals row N)).length = (List.replicate N (AV.str [])).length := by simp [encS_len, vals_len]
    have hB : n < (List.replicate N (AV.str [])).length := by simp; omega
    have hs : (encS (vals row N))[n]'(by rw [encS_len, vals_len]; omega) = AV.str (cellAt row n) := by simp [encS, vals]
    have l := mid_len hA n
    rw [List.length_replicate] at l
    have d1 : ((n : Nat) : Int) < ((N : Nat) : Int) := by omega
    have d2 : (0 : Int) ≤ ((n : Nat) : Int) := by omega
    have d3 : n < N := by omega
    have st : report_values_M_l0_step (row.map encV) N ((N : Nat) : Int) (((n : Nat) : Int), (encS (vals row N)).take n ++ (List.replicate N (AV.str [])).drop n) = some (.inl (((n + 1 : Nat) : Int), (encS (vals row N)).take (n + 1) ++ (List.replicate N (AV.str [])).drop (n + 1))) := by
      unfold report_values_M_l0_step
      simp only
      unfold report_values_M_l0_t report_values_M_l0_v0
      rw [l, List.length_map, Int.toNat_natCast, decide_eq_true d1, decide_eq_true d2, Nat.zero_add, decide_eq_true d3, wrap_nat (show n + 1 ≤ maxLen by unfold maxLen; omega)]
      by_cases h : n < row.length
      · have d4 : ((n : Nat) : Int) < ((row.length : Nat) : Int) := by omega
        have e := mid_set hA hB
        rw [hs] at e
        have gv : (row.map encV).getD n .top = encV row[n] := getD_map encV _ _ h
        have lit : value_Literal ((encV row[n]).cells.getD 0 .top).toInt ((encV row[n]).cells.getD 1 .top).toInt ((encV row[n]).cells.getD 2 .top).toStr = some (cellAt row n) := val_cell row hw N hN n h
        have sh : ((encV row[n]).cells.length == (3 : Nat) && hasShs [Sh.int IntKind.i64, Sh.int IntKind.i64, Sh.str] (encV row[n]).cells (0 : Nat)) = true := rfl
        rw [decide_eq_true d4, gv, sh, lit, decide_eq_true h]
        simp only [Option.getD_some]
        rw [e]; rfl
      · have d4 : ¬ ((n : Nat) : Int) < ((row.length : Nat) : Int) := by omega
        have e0 : cellAt row n = [] := by unfold cellAt; rw [List.getElem?_eq_none (by omega)]
        have e := mid_skip hA hB (by rw [hs, e0]; simp)
        rw [decide_eq_false d4, e]; rfl
    rw [iter_step st, valuesM_loop k (n + 1) (by omega)]

theorem valuesM_ok : report_values_M (row.map encV) ((N : Nat) : Int) = some (N, encS (vals row N)) := by
  have h := valuesM_loop row hw N hN N 0 (by omega)
  rw [List.take_zero, List.nil_append, List.drop_zero] at h
  have h' : Iter (report_values_M_l0_step (row.map encV) N ((N : Nat) : Int)) ((0 : Int), List.replicate N (AV.str [])) = some (encS (vals row N)) := h
  have d1 : (0 : Int) ≤ ((N : Nat) : Int) := by omega
  have d2 : ((N : Nat) : Int) ≤ ((N : Nat) : Int) := Int.le_refl _
  have d3 : (16 : Int) * ((N : Nat) : Int) ≤ 281474976710656 := by omega
  have d4 : ((N : Nat) : Int) ≤ 4611686018427387904 := by omega
  unfold report_values_M report_values_M_t
  rw [Int.toNat_natCast, h', decide_eq_true d1, decide_eq_true d2, decide_eq_true d3, decide_eq_true d4]
  rfl

theorem values_loop : ∀ (k n : Nat), n + k = N → Iter (report_values_l0_step (row.map encV) N ((N : Nat) : Int)) (((n : Nat) : Int), (encS (vals row N)).take n ++ (List.replicate N (AV.str [])).drop n) = some (encS (vals row N))
  | 0, n, hk => by
    obtain rfl : n = N := by omega
    rw [List.take_of_length_le (by rw [encS_len, vals_len]; omega), List.drop_eq_nil_of_le (by simp), List.append_nil]
    refine iter_end ?_
    simp [report_values_l0_step, report_values_l0_t, br_if]
  | k + 1, n, hk => by
    have hA : (encS (vals row N)).length = (List.replicate N (AV.str [])).length := by simp [encS_len, vals_len]
    have hB : n < (List.replicate N (AV.str [])).length := by simp; omega
    have hs : (encS (vals row N))[n]'(by rw [encS_len, vals_len]; omega) = AV.str (cellAt row n) := by simp [encS, vals]
    have l := mid_len hA n
    rw [List.length_replicate] at l
    have d1 : ((n : Nat) : Int) < ((N : Nat) : Int) := by omega
    have d2 : (0 : Int) ≤ ((n : Nat) : Int) := by omega
    have d3 : n < N := by omega
    have st : report_values_l0_step (row.map encV) N ((N : Nat) : Int) (((n : Nat) : Int), (encS (vals row N)).take n ++ (List.replicate N (AV.str [])).drop n) = some (.inl (((n + 1 : Nat) : Int), (encS (vals row N)).take (n + 1) ++ (List.replicate N (AV.str [])).drop (n + 1))) := by
      unfold report_values_l0_step
      simp only
      unfold report_values_l0_t report_values_l0_v0
      rw [l, List.length_map, Int.toNat_natCast, decide_eq_true d1, decide_eq_true d2, Nat.zero_add, decide_eq_true d3, wrap_nat (show n + 1 ≤ maxLen by unfold maxLen; omega)]
      by_cases h : n < row.length
      · have d4 : ((n : Nat) : Int) < ((row.length : Nat) : Int) := by omega
        have e := mid_set hA hB
        rw [hs] at e
        have gv : (row.map encV).getD n .top = encV row[n] := getD_map encV _ _ h
        have lit : value_Literal ((encV row[n]).cells.getD 0 .top).toInt ((encV row[n]).cells.getD 1 .top).toInt ((encV row[n]).cells.getD 2 .top).toStr = some (cellAt row n) := val_cell row hw N hN n h
        have sh : ((encV row[n]).cells.length == (3 : Nat) && hasShs [Sh.int IntKind.i64, Sh.int IntKind.i64, Sh.str] (encV row[n]).cells (0 : Nat)) = true := rfl
        rw [decide_eq_true d4, gv, sh, lit, decide_eq_true h]
        simp only [Option.getD_some]
        rw [e]; rfl
      · have d4 : ¬ ((n : Nat) : Int) < ((row.length : Nat) : Int) := by omega
        have e0 : cellAt row n = [] := by unfold cellAt; rw [List.getElem?_eq_none (by omega)]
        have e := mid_skip hA hB (by rw [hs, e0]; simp)
        rw [decide_eq_false d4, e]; rfl
    rw [iter_step st, values_loop k (n + 1) (by omega)]

theorem values_ok : report_values (row.map encV) ((N : Nat) : Int) = some (encS (vals row N)) := by
  have h := values_loop row hw N hN N 0 (by omega)
  rw [List.take_zero, List.nil_append, List.drop_zero] at h
  have h' : Iter (report_values_l0_step (row.map encV) N ((N : Nat) : Int)) ((0 : Int), List.replicate N (AV.str [])) = some (encS (vals row N)) := h
  have d1 : (0 : Int) ≤ ((N : Nat) : Int) := by omega
  have d2 : ((N : Nat) : Int) ≤ ((N : Nat) : Int) := Int.le_refl _
  have d3 : (16 : Int) * ((N : Nat) : Int) ≤ 281474976710656 := by omega
  have d4 : ((N : Nat) : Int) ≤ 4611686018427387904 := by omega
  have d5 : 0 + N ≤ (encS (vals row N)).length := by rw [encS_len, vals_len]; omega
  unfold report_values report_values_t
  rw [Int.toNat_natCast, h', decide_eq_true d1, decide_eq_true d2, decide_eq_true d3, decide_eq_true d4]
  simp only [Option.getD_some, Option.isSome_some]
  rw [decide_eq_true d5, take_encS _ _ (by rw [vals_len])]
  rfl

theorem cells_loop : ∀ (k n : Nat), n + k = N → Iter (ref55_cells_M_l0_step (row.map encV) ((N : Nat) : Int)) (n, ((n : Nat) : Int), encS ((vals row N).take n)) = some (N, encS (vals row N))
  | 0, n, hk => by
    obtain rfl : n = N := by omega
    rw [List.take_of_length_le (by rw [vals_len]; omega)]
    refine iter_end ?_
    simp [ref55_cells_M_l0_step, ref55_cells_M_l0_t, br_if]
  | k + 1, n, hk => by
    have h2 : n < (vals row N).length := by rw [vals_len]; omega
    have hs : (vals row N)[n] = cellAt row n := by simp [vals]
    have ll : (encS ((vals row N).take n)).length = n := by rw [encS_len, List.length_take, vals_len]; omega
    have d1 : ((n : Nat) : Int) < ((N : Nat) : Int) := by omega
    have d2 : (0 : Int) ≤ ((n : Nat) : Int) := by omega
    have d3 : (n + 1) * 16 ≤ 140737488355328 := by omega
    have d4 : n + 1 ≤ 4611686018427387904 := by omega
    have d5 : (n == n) = true := by simp
    have e := encS_snoc (vals row N) n h2
    rw [hs] at e
    have st : ref55_cells_M_l0_step (row.map encV) ((N : Nat) : Int) (n, ((n : Nat) : Int), encS ((vals row N).take n)) = some (.inl (n + 1, ((n + 1 : Nat) : Int), encS ((vals row N).take (n + 1)))) := by
      unfold ref55_cells_M_l0_step
      simp only
      unfold ref55_cells_M_l0_t ref55_cells_M_l0_v0
      rw [ll, List.length_map, Int.toNat_natCast, decide_eq_true d1, decide_eq_true d2, decide_eq_true d3, decide_eq_true d4, d5, wrap_nat (show n + 1 ≤ maxLen by unfold maxLen; omega)]
      by_cases h : n < row.length
      · have d6 : ((n : Nat) : Int) < ((row.length : Nat) : Int) := by omega
        have gv : (row.map encV).getD n .top = encV row[n] := getD_map encV _ _ h
        have lit : ref07_Literal ((encV row[n]).cells.getD 0 .top).toInt ((encV row[n]).cells.getD 1 .top).toInt ((encV row[n]).cells.getD 2 .top).toStr = some (cellAt row n) := ref_cell row hw N hN n h
        have sh : ((encV row[n]).cells.length == (3 : Nat) && hasShs [Sh.int IntKind.i64, Sh.int IntKind.i64, Sh.str] (encV row[n]).cells (0 : Nat)) = true := rfl
        rw [decide_eq_true d6, gv, sh, lit, decide_eq_true h]
        simp only [Option.getD_some]
        rw [e]; rfl
      · have d6 : ¬ ((n : Nat) : Int) < ((row.length : Nat) : Int) := by omega
        have e0 : cellAt row n = [] := by unfold cellAt; rw [List.getElem?_eq_none (by omega)]
        rw [e0] at e
        rw [decide_eq_false d6, e]; rfl
    rw [iter_step st, cells_loop k (n + 1) (by omega)]

theorem cells_ok : ref55_cells_M (row.map encV) ((N : Nat) : Int) = some (N, encS (vals row N)) := by
  have h : Iter (ref55_cells_M_l0_step (row.map encV) ((N : Nat) : Int)) ((0 : Nat), (0 : Int), []) = some (N, encS (vals row N)) := cells_loop row hw N hN N 0 (by omega)
  unfold ref55_cells_M ref55_cells_M_t ref55_cells_M_v0
  rw [h]; rfl
end
end Go.Sim.M
