/- Rows and periods as texts; the law on violations. -/
import Derived.Test.YtpnibjljhfgjaaaGreatDoorPlnA
import Derived.Test.YtpnibjljhfgjaaaGreatDoorKL
set_option linter.unusedVariables false
set_option linter.unusedSimpArgs false
set_option maxRecDepth 100000
namespace Go.Sim.M
open Go.RowKit Go.Lib

noncomputable def tl : Row → List UInt8
  | [] => []
  | v :: r => [44, 32] ++ lit v ++ tl r
noncomputable def txt : Row → List UInt8
  | [] => []
  | v :: r => lit v ++ tl r

theorem tl_len : ∀ r : Row, (∀ v, v ∈ r → v.wf) → (tl r).length ≤ 412 * r.length
  | [], _ => by simp [tl]
  | v :: r, h => by
    have := tl_len r fun u hu => h u (by simp [hu])
    have := lit_len v (h v (by simp)).2.2
    simp only [tl, List.length_append, List.length_cons, List.length_nil]; omega
theorem txt_len (r : Row) (h : ∀ v, v ∈ r → v.wf) : (txt r).length ≤ 412 * r.length := by
  cases r with
  | nil => simp [txt]
  | cons v r =>
    have := tl_len (v :: r) h
    simp only [tl, txt, List.length_append, List.length_cons, List.length_nil] at *; omega

theorem join_lits (r : Row) : join (r.map lit) [44, 32] = txt r := by
  cases r with
  | nil => rfl
  | cons v r =>
    rw [List.map_cons, join_cons, txt]
    congr 1
    induction r with
    | nil => rfl
    | cons u r ih => simp only [List.map_cons, joinTail, tl, List.flatten_cons] at *; rw [ih]

theorem tt_loop (row : Row) (hw : row.wf) (hN : row.length ≤ 1048576) : ∀ (k n : Nat) (xs : List AV), n + k = row.length → xs.length = n →
    Iter (tuple_Text_l0_step (row.map encV) ((row.length : Nat) : Int)) (n, ((n : Nat) : Int), xs) = some (row.length, xs ++ (row.drop n).map fun v => AV.str (lit v))
  | 0, n, xs, hk, hx => by
    have h0 : ¬ ((n : Int) < (row.length : Int)) := by omega
    rw [List.drop_eq_nil_of_le (by omega : row.length ≤ n)]
    refine iter_end ?_
    obtain rfl : n = row.length := by omega
    simp [tuple_Text_l0_step, tuple_Text_l0_t, br_if]
  | k + 1, n, xs, hk, hx => by
    have h1 : n < row.length := by omega
    have h1' : (n : Int) < (row.length : Int) := by omega
    have hv := (hw.2 row[n] (List.getElem_mem h1)).2.2
    have hs : tuple_Text_l0_step (row.map encV) ((row.length : Nat) : Int) (n, ((n : Nat) : Int), xs) = some (.inl (n + 1, ((n + 1 : Nat) : Int), xs ++ [AV.str (lit row[n])])) := by
      simp only [tuple_Text_l0_step, tuple_Text_l0_t, tuple_Text_l0_v0, br_if, h1', List.length_map, decide_true, Int.toNat_natCast, getD_map encV _ _ h1, cells_encV, shs_encV, wrap_nat (show n + 1 ≤ maxLen by unfold maxLen; omega)]
      simp [h1, AV.toInt, AV.toStr, lit_val row[n] hv, hx]
      omega
    rw [iter_step hs, tt_loop row hw hN k (n + 1) _ (by omega) (by simp [hx]), drop_cons h1, List.map_cons, List.append_assoc]
    rfl

theorem text_ok (row : Row) (hw : row.wf) (hN : row.length ≤ 1048576) : tuple_Text (row.map encV) = some ([40] ++ txt row ++ [41]) := by
  have h := tt_loop row hw hN row.length 0 [] (by omega) rfl
  have ht := txt_len row hw.2
  simp only [List.drop_zero, List.nil_append] at h
  have hj := join_lits row
  unfold tuple_Text tuple_Text_t tuple_Text_v0 tuple_Text_v1 tuple_Text_v2 tuple_Text_v3
  rw [List.length_map, show ((0 : Int)) = ((0 : Nat) : Int) from rfl, h]
  have e1 : List.map AV.toStr (List.take row.length (List.drop 0 (row.map fun v => AV.str (lit v)))) = row.map lit := by
    rw [List.drop_zero, List.take_of_length_le (by simp), List.map_map]; rfl
  have e2 : (List.take row.length (List.drop 0 (row.map fun v => AV.str (lit v)))).all AV.isStr = true := by
    rw [List.drop_zero, List.take_of_length_le (by simp)]; simp [AV.isStr]
  simp only [Option.isSome_some, Option.getD_some, e1, e2, hj]
  simp [br_if]
  omega

theorem rt_loop (row : Row) (hw : row.wf) (hN : row.length ≤ 1048576) : ∀ (k n : Nat) (s : List UInt8), n + k = row.length → 0 < n → s.length + 412 * k ≤ 1000000000 →
    Iter (ref08_Text_l0_step (row.map encV)) (s, ((n : Nat) : Int)) = some (s ++ tl (row.drop n))
  | 0, n, s, hk, hn, hs => by
    have h0 : ¬ ((n : Int) < (row.length : Int)) := by omega
    rw [List.drop_eq_nil_of_le (by omega : row.length ≤ n)]
    refine iter_end ?_
    simp [ref08_Text_l0_step, ref08_Text_l0_t, br_if, h0, tl]
  | k + 1, n, s, hk, hn, hs => by
    have h1 : n < row.length := by omega
    have h1' : (n : Int) < (row.length : Int) := by omega
    have h2' : (n : Int) > 0 := by omega
    have hv := (hw.2 row[n] (List.getElem_mem h1)).2.2
    have hll := lit_len row[n] hv
    have ha := lit_ref row[n] hv
    rw [drop_cons h1]
    have hst : ref08_Text_l0_step (row.map encV) (s, ((n : Nat) : Int)) = some (.inl (s ++ [44, 32] ++ lit row[n], ((n + 1 : Nat) : Int))) := by
      simp only [ref08_Text_l0_step, ref08_Text_l0_t, ref08_Text_l0_v0, ref08_Text_l0_v1, ref08_Text_l0_v2, ref08_Text_l0_v3, br_if, h1', h2', List.length_map, decide_true, Int.toNat_natCast, getD_map encV _ _ h1, cells_encV, shs_encV, wrap_nat (show n + 1 ≤ maxLen by unfold maxLen; omega)]
      simp [h1, AV.toInt, AV.toStr, ha]
      omega
    rw [iter_step hst, rt_loop row hw hN k (n + 1) _ (by omega) (by omega) (by simp only [List.length_append, List.length_cons, List.length_nil]; omega)]
    simp only [tl, List.append_assoc]

theorem rt_all (row : Row) (hw : row.wf) (hN : row.length ≤ 1048576) : Iter (ref08_Text_l0_step (row.map encV)) ([40], ((0 : Nat) : Int)) = some ([40] ++ txt row) := by
  cases row with
  | nil => exact iter_end (by simp [ref08_Text_l0_step, ref08_Text_l0_t, br_if, txt])
  | cons v row =>
    have hv := (hw.2 v (by simp)).2.2
    have hll := lit_len v hv
    have ha := lit_ref v hv
    have hN' := hN
    simp only [List.length_cons] at hN'
    have hst : ref08_Text_l0_step ((v :: row).map encV) ([40], ((0 : Nat) : Int)) = some (.inl ([40] ++ lit v, ((1 : Nat) : Int))) := by
      simp only [ref08_Text_l0_step, ref08_Text_l0_t, ref08_Text_l0_v0, ref08_Text_l0_v1, ref08_Text_l0_v2, ref08_Text_l0_v3, br_if, List.length_map, decide_true, Int.toNat_natCast, getD_map encV (v :: row) 0 (by simp), cells_encV, shs_encV, wrap_nat (show 0 + 1 ≤ maxLen by unfold maxLen; omega)]
      simp [AV.toInt, AV.toStr, ha]
      omega
    rw [iter_step hst, rt_loop (v :: row) hw hN row.length 1 _ (by simp; omega) (by omega) (by simp; omega)]
    simp [txt]

theorem rtext_ok (row : Row) (hw : row.wf) (hN : row.length ≤ 1048576) : ref08_Text (row.map encV) = some ([40] ++ txt row ++ [41]) := by
  have ht := txt_len row hw.2
  unfold ref08_Text ref08_Text_t
  rw [show ((0 : Int)) = ((0 : Nat) : Int) from rfl, rt_all row hw hN]
  simp only [Option.isSome_some, Option.getD_some, br_tt]
  have c : decide (([40] ++ txt row).length + 1 ≤ 4611686018427387904) = true := decide_eq_true (by simp only [List.length_append, List.length_cons, List.length_nil]; omega)
  rw [c]; rfl

/-- A period's text. -/
def pTxt (f t : Int) : List UInt8 := if 0 ≤ f ∧ f < t ∧ t ≤ 1099511627776 then [91] ++ itoa f ++ [44, 32] ++ (if t = 1099511627776 then [102, 111, 114, 101, 118, 101, 114] else itoa t) ++ [41] else []

theorem itoa_len (n : Int) (h0 : 0 ≤ n) (h : n < 1000000000000000000) : (itoa n).length ≤ 18 := by
  unfold itoa
  rw [if_neg (by omega)]
  exact dec_len 17 n.toNat (by omega)

theorem itoa_nat (n : Int) (h0 : 0 ≤ n) : itoa n = decDigits n.toNat := by unfold itoa; rw [if_neg (by omega)]

theorem pTxt_len (f t : Int) : (pTxt f t).length ≤ 50 := by
  unfold pTxt
  split
  · have h1 := itoa_len f (by omega) (by omega)
    have h2 := itoa_len t (by omega) (by omega)
    simp only [List.length_append, List.length_cons, List.length_nil]
    split <;> simp <;> omega
  · simp

theorem ptext_ok (f t : Int) : period_Text f t = some (pTxt f t) := by
  unfold period_Text period_Text_t period_Text_v0 period_Text_v1 period_Text_v2 period_Text_v3 period_Text_v4 period_Valid pTxt
  by_cases hv : 0 ≤ f ∧ f < t ∧ t ≤ 1099511627776
  · rw [if_pos hv]
    obtain ⟨h1, h2, h3⟩ := hv
    have l1 := itoa_len f (by omega) (by omega)
    have l2 := itoa_len t (by omega) (by omega)
    have e1 : decide (f ≥ 0) = true := decide_eq_true h1
    have e2 : decide (f < t) = true := decide_eq_true h2
    have e3 : decide (t ≤ 1099511627776) = true := decide_eq_true h3
    rw [e1, e2, e3]
    by_cases ht : t = 1099511627776
    · simp [br_if, ht]
      omega
    · simp [br_if, ht]
      omega
  · rw [if_neg hv]
    by_cases h1 : 0 ≤ f
    · by_cases h2 : f < t
      · have h3 : ¬ t ≤ 1099511627776 := fun h => hv ⟨h1, h2, h⟩
        simp [br_if, h1, h2, h3]
      · simp [br_if, h1, h2]
    · simp [br_if, h1]

theorem rptext_ok (f t : Int) : ref01_Text f t = some (pTxt f t) := by
  unfold ref01_Text ref01_Text_t ref01_Text_v0 ref01_Text_v1 ref01_Text_v2 ref01_Text_v3 ref01_Valid pTxt
  by_cases hv : 0 ≤ f ∧ f < t ∧ t ≤ 1099511627776
  · rw [if_pos hv]
    obtain ⟨h1, h2, h3⟩ := hv
    have l1 := itoa_len f (by omega) (by omega)
    have l2 := itoa_len t (by omega) (by omega)
    have n1 := number01_eq f.toNat (by omega)
    have n2 := number01_eq t.toNat (by omega)
    rw [Int.toNat_of_nonneg h1, ← itoa_nat f h1] at n1
    rw [Int.toNat_of_nonneg (by omega), ← itoa_nat t (by omega)] at n2
    have e1 : decide (f ≥ 0) = true := decide_eq_true h1
    have e2 : decide (f < t) = true := decide_eq_true h2
    have e3 : decide (t ≤ 1099511627776) = true := decide_eq_true h3
    rw [e1, e2, e3, n1, n2]
    by_cases ht : t = 1099511627776
    · simp [br_if, ht]
      omega
    · have hlt : t < 1099511627776 := by omega
      simp [br_if, ht, hlt]
      omega
  · rw [if_neg hv]
    by_cases h1 : 0 ≤ f
    · by_cases h2 : f < t
      · have h3 : ¬ t ≤ 1099511627776 := fun h => hv ⟨h1, h2, h⟩
        simp [br_if, h1, h2, h3]
      · simp [br_if, h1, h2]
    · simp [br_if, h1]

theorem tame_loop (xs : List Int) (hx : xs.length ≤ 1000) : ∀ (k n : Nat), n + k = xs.length → ∃ b, Iter (law55_tame_l0_step (xs.map (AV.int .i64)) ((xs.length : Nat) : Int)) ((n : Nat) : Int) = some (b, false, ()) ∧ (b = false → ∀ i (hi : i < xs.length), n ≤ i → -1152921504606846976 ≤ xs[i] ∧ xs[i] ≤ 1152921504606846976)
  | 0, n, hk => by
    have h0 : ¬ ((n : Int) < (xs.length : Int)) := by omega
    exact ⟨false, iter_end (by simp [law55_tame_l0_step, law55_tame_l0_t, br_if, h0]), fun _ i hi hn => by omega⟩
  | k + 1, n, hk => by
    have h1 : n < xs.length := by omega
    have h1' : (n : Int) < (xs.length : Int) := by omega
    by_cases hlow : xs[n] < -1152921504606846976
    · refine ⟨true, iter_end ?_, fun h => by simp at h⟩
      simp only [law55_tame_l0_step, law55_tame_l0_t, br_if, h1', List.length_map, decide_true, Int.toNat_natCast, getD_map (AV.int .i64) _ _ h1]
      simp [h1, AV.cells, hasSh1, AV.toInt, hlow]
    · by_cases hhi : xs[n] > 1152921504606846976
      · refine ⟨true, iter_end ?_, fun h => by simp at h⟩
        simp only [law55_tame_l0_step, law55_tame_l0_t, br_if, h1', List.length_map, decide_true, Int.toNat_natCast, getD_map (AV.int .i64) _ _ h1]
        simp [h1, AV.cells, hasSh1, AV.toInt, hlow, hhi]
      · obtain ⟨b, hb, hall⟩ := tame_loop xs hx k (n + 1) (by omega)
        refine ⟨b, ?_, fun h i hi hn => ?_⟩
        · rw [iter_step (s' := ((n + 1 : Nat) : Int)) ?_, hb]
          simp only [law55_tame_l0_step, law55_tame_l0_t, br_if, h1', List.length_map, decide_true, Int.toNat_natCast, getD_map (AV.int .i64) _ _ h1, wrap_nat (show n + 1 ≤ maxLen by unfold maxLen; omega)]
          simp [h1, AV.cells, hasSh1, AV.toInt, hlow, hhi]
        · by_cases hin : i = n
          · subst hin; omega
          · exact hall h i hi (by omega)

theorem tame_ok (xs : List Int) (hx : xs.length ≤ 1000) : ∃ b, law55_tame (xs.map (AV.int .i64)) = some b ∧ (b = true → ∀ x, x ∈ xs → -1152921504606846976 ≤ x ∧ x ≤ 1152921504606846976) := by
  obtain ⟨b, hb, hall⟩ := tame_loop xs hx xs.length 0 (by omega)
  refine ⟨!b, ?_, fun h x hx => ?_⟩
  · unfold law55_tame law55_tame_t
    rw [List.length_map, show ((0 : Int)) = ((0 : Nat) : Int) from rfl, hb]
    cases b <;> rfl
  · obtain ⟨i, hi, rfl⟩ := List.mem_iff_getElem.1 hx
    exact hall (by simpa using h) i hi (Nat.zero_le _)
end Go.Sim.M
