/- The law that rows are written as defined. -/
import Derived.Test.YtlapjnnkblbhdaaDoorPlainD
set_option linter.unusedVariables false
set_option linter.unusedSimpArgs false
set_option maxRecDepth 100000
namespace Go.Sim.M
open Go.RowKit Go.Lib

theorem dec_len : ∀ (k n : Nat), n < 10 ^ (k + 1) → (decDigits n).length ≤ k + 1
  | 0, n, h => by rw [decDigits, dif_pos (by simpa using h)]; simp
  | k + 1, n, h => by
    rw [decDigits]
    split
    · simp
    · have := dec_len k (n / 10) (by rw [Nat.pow_succ] at h; omega)
      simp; omega

noncomputable def lit (v : Val) : List UInt8 := value_Literal v.k v.i v.t

theorem lit_len (v : Val) (hl : v.t.length ≤ maxLen) : (lit v).length ≤ 2 * v.t.length + 20 := by
  unfold lit
  cases hv : value_Valid v.k v.i v.t with
  | false => unfold value_Literal; rw [hv]; simp [br_if]
  | true =>
    rw [(literal_valid hl hv).2]
    unfold litV
    split
    · simp [wNULL]
    · split
      · cases valid_form hv with
        | int h1 h2 h3 h4 =>
          unfold itoa
          have := dec_len 17 v.i.natAbs (by omega)
          have := dec_len 17 v.i.toNat (by omega)
          split <;> simp <;> omega
        | null h1 h2 h3 => omega
        | text h1 h2 h3 => omega
        | bool h1 h2 h3 => omega
      · split
        · have := qb_len v.t
          simp only [quoteV, List.length_append, List.length_cons, List.length_nil]; omega
        · split <;> simp [wTRUE, wFALSE] <;> omega

noncomputable def tl : Row → List UInt8
  | [] => []
  | v :: r => [44, 32] ++ lit v ++ tl r
noncomputable def txt : Row → List UInt8
  | [] => []
  | v :: r => lit v ++ tl r

/-- How much a row holds. -/
def wtR : Row → Nat
  | [] => 0
  | v :: r => v.t.length + 3 + wtR r

theorem wts_row : ∀ r : Row, AV.wts (r.map encV) = wtR r
  | [] => rfl
  | v :: r => by
    have := wts_row r
    simp only [List.map_cons, AV.wts, wtR, encV, AV.wt] at *
    omega
theorem wt_row (r : Row) : (AV.list 3 (r.map encV)).wt = wtR r + 1 := by simp only [AV.wt, wts_row]
theorem len_row : ∀ r : Row, 3 * r.length ≤ wtR r
  | [] => by simp [wtR]
  | v :: r => by have := len_row r; simp only [wtR, List.length_cons]; omega

theorem tl_len : ∀ r : Row, (∀ v, v ∈ r → v.wf) → (tl r).length ≤ 9 * wtR r
  | [], _ => by simp [tl, wtR]
  | v :: r, h => by
    have := tl_len r fun u hu => h u (by simp [hu])
    have := lit_len v (h v (by simp)).2.2
    simp only [tl, wtR, List.length_append, List.length_cons, List.length_nil]; omega
theorem txt_len (r : Row) (h : ∀ v, v ∈ r → v.wf) : (txt r).length ≤ 9 * wtR r := by
  cases r with
  | nil => simp [txt, wtR]
  | cons v r =>
    have := tl_len (v :: r) h
    simp only [tl, txt, List.length_append, List.length_cons, List.length_nil] at *; omega

theorem join_lits (r : Row) : join (r.map lit) [44, 32] = txt r := by
  cases r with
  | nil => rfl
  | cons v r =>
    rw [List.map_cons, join_cons, txt]
    congr 1
    induction r with
    | nil => rfl
    | cons u r ih => simp only [List.map_cons, joinTail, tl, List.flatten_cons] at *; rw [ih]

theorem tt_loop (row : Row) (hw : row.wf) (hN : row.length ≤ 1048576) : ∀ (k n : Nat) (xs : List AV), n + k = row.length → xs.length = n →
    Iter (tuple_Text_l0_step (row.map encV) ((row.length : Nat) : Int)) (n, ((n : Nat) : Int), xs) = some (row.length, xs ++ (row.drop n).map fun v => AV.str (lit v))
  | 0, n, xs, hk, hx => by
    have h0 : ¬ ((n : Int) < (row.length : Int)) := by omega
    rw [List.drop_eq_nil_of_le (by omega : row.length ≤ n)]
    refine iter_end ?_
    obtain rfl : n = row.length := by omega
    simp [tuple_Text_l0_step, br_if]
  | k + 1, n, xs, hk, hx => by
    have h1 : n < row.length := by omega
    have h1' : (n : Int) < (row.length : Int) := by omega
    have hv := (hw.2 row[n] (List.getElem_mem h1)).2.2
    have hs : tuple_Text_l0_step (row.map encV) ((row.length : Nat) : Int) (n, ((n : Nat) : Int), xs) = some (.inl (n + 1, ((n + 1 : Nat) : Int), xs ++ [AV.str (lit row[n])])) := by
      simp only [tuple_Text_l0_step, br_if, h1', List.length_map, decide_true, Int.toNat_natCast, getD_map encV _ _ h1, cells_encV, shs_encV, wrap_nat (show n + 1 ≤ maxLen by unfold maxLen; omega)]
      simp [h1, AV.toInt, AV.toStr, (literal_all row[n].k row[n].i row[n].t hv).1, hx, lit]
      omega
    rw [iter_step hs, tt_loop row hw hN k (n + 1) _ (by omega) (by simp [hx]), drop_cons h1, List.map_cons, List.append_assoc]
    rfl

theorem rt_loop (row : Row) (hw : row.wf) (hN : wtR row ≤ 1048576) : ∀ (k n : Nat) (s : List UInt8), n + k = row.length → 0 < n → s.length + 9 * wtR (row.drop n) ≤ 1000000000 →
    Iter (ref08_Text_l0_step (row.map encV)) (s, ((n : Nat) : Int)) = some (s ++ tl (row.drop n))
  | 0, n, s, hk, hn, hs => by
    have h0 : ¬ ((n : Int) < (row.length : Int)) := by omega
    rw [List.drop_eq_nil_of_le (by omega : row.length ≤ n)]
    refine iter_end ?_
    simp [ref08_Text_l0_step, br_if, h0, tl]
  | k + 1, n, s, hk, hn, hs => by
    have h1 : n < row.length := by omega
    have h1' : (n : Int) < (row.length : Int) := by omega
    have h2' : (n : Int) > 0 := by omega
    have hl := len_row row
    have hv := (hw.2 row[n] (List.getElem_mem h1)).2.2
    have hll := lit_len row[n] hv
    have ha := literal_all row[n].k row[n].i row[n].t hv
    have el : ref07_Literal row[n].k row[n].i row[n].t = lit row[n] := ha.2.2.symm
    rw [drop_cons h1] at hs ⊢
    simp only [wtR] at hs
    have hst : ref08_Text_l0_step (row.map encV) (s, ((n : Nat) : Int)) = some (.inl (s ++ [44, 32] ++ lit row[n], ((n + 1 : Nat) : Int))) := by
      simp only [ref08_Text_l0_step, br_if, h1', h2', List.length_map, decide_true, Int.toNat_natCast, getD_map encV _ _ h1, cells_encV, shs_encV, wrap_nat (show n + 1 ≤ maxLen by unfold maxLen; omega)]
      simp [h1, AV.toInt, AV.toStr, ha.2.1, el]
      omega
    rw [iter_step hst, rt_loop row hw hN k (n + 1) _ (by omega) (by omega) (by simp only [List.length_append, List.length_cons, List.length_nil]; omega)]
    simp only [tl, List.append_assoc]

theorem rt_all (row : Row) (hw : row.wf) (hN : wtR row ≤ 1048576) : Iter (ref08_Text_l0_step (row.map encV)) ([40], ((0 : Nat) : Int)) = some ([40] ++ txt row) := by
  cases row with
  | nil => exact iter_end (by simp [ref08_Text_l0_step, br_if, txt])
  | cons v row =>
    have hv := (hw.2 v (by simp)).2.2
    have hll := lit_len v hv
    have ha := literal_all v.k v.i v.t hv
    have el : ref07_Literal v.k v.i v.t = lit v := ha.2.2.symm
    have hN' := hN
    simp only [wtR] at hN'
    have hl := len_row row
    have hst : ref08_Text_l0_step ((v :: row).map encV) ([40], ((0 : Nat) : Int)) = some (.inl ([40] ++ lit v, ((1 : Nat) : Int))) := by
      simp only [ref08_Text_l0_step, br_if, List.length_map, decide_true, Int.toNat_natCast, getD_map encV (v :: row) 0 (by simp), cells_encV, shs_encV, wrap_nat (show 0 + 1 ≤ maxLen by unfold maxLen; omega)]
      simp [AV.toInt, AV.toStr, ha.2.1, el]
      omega
    rw [iter_step hst, rt_loop (v :: row) hw hN row.length 1 _ (by simp; omega) (by omega) (by simp; omega)]
    simp [txt]

theorem text_ok (row : Row) (hw : row.wf) (hN : wtR row ≤ 1048576) : tuple_Text_pre (row.map encV) = true ∧ tuple_Text (row.map encV) = [40] ++ txt row ++ [41] := by
  have hl := len_row row
  have h := tt_loop row hw (by omega) row.length 0 [] (by omega) rfl
  have ht := txt_len row hw.2
  simp only [List.drop_zero, List.nil_append] at h
  have hj := join_lits row
  unfold tuple_Text_pre tuple_Text
  rw [List.length_map, show ((0 : Int)) = ((0 : Nat) : Int) from rfl, h]
  have e1 : List.map AV.toStr (List.take row.length (List.drop 0 (row.map fun v => AV.str (lit v)))) = row.map lit := by
    rw [List.drop_zero, List.take_of_length_le (by simp), List.map_map]; rfl
  have e2 : (List.take row.length (List.drop 0 (row.map fun v => AV.str (lit v)))).all AV.isStr = true := by
    rw [List.drop_zero, List.take_of_length_le (by simp)]; simp [AV.isStr]
  simp only [Option.isSome_some, Option.getD_some, e1, e2, hj]
  refine ⟨?_, trivial⟩
  simp [br_if]
  omega

theorem rtext_ok (row : Row) (hw : row.wf) (hN : wtR row ≤ 1048576) : ref08_Text_pre (row.map encV) = true ∧ ref08_Text (row.map encV) = [40] ++ txt row ++ [41] := by
  have ht := txt_len row hw.2
  unfold ref08_Text_pre ref08_Text
  rw [show ((0 : Int)) = ((0 : Nat) : Int) from rfl, rt_all row hw hN]
  refine ⟨?_, rfl⟩
  simp [br_if]
  omega

theorem sum_some (row : Row) (hw : row.length ≤ maxLen) : ∀ (k n : Nat) (m : Int), n + k = row.length → (Iter (law08_TupleTexts_l0_step (row.map encV) ((row.length : Nat) : Int)) (m, ((n : Nat) : Int))).isSome = true
  | 0, n, m, hk => by
    have h0 : ¬ ((n : Int) < (row.length : Int)) := by omega
    rw [iter_end (r := m) (by simp [law08_TupleTexts_l0_step, br_if, h0])]; rfl
  | k + 1, n, m, hk => by
    have h1 : n < row.length := by omega
    have h1' : (n : Int) < (row.length : Int) := by omega
    have hs : ∃ m', law08_TupleTexts_l0_step (row.map encV) ((row.length : Nat) : Int) (m, ((n : Nat) : Int)) = some (.inl (m', ((n + 1 : Nat) : Int))) := by
      simp only [law08_TupleTexts_l0_step, br_if, h1', List.length_map, decide_true, Int.toNat_natCast, getD_map encV _ _ h1, cells_encV, wrap_nat (show n + 1 ≤ maxLen by omega)]
      simp [h1, hasSh1]
    obtain ⟨m', hs⟩ := hs
    rw [iter_step hs]
    exact sum_some row hw k (n + 1) m' (by omega)

theorem law_texts (row : Row) (hw : row.wf) (hb : (AV.list 3 (row.map encV)).wt ≤ 1048576) : law08_TupleTexts_pre (row.map encV) = true ∧ law08_TupleTexts (row.map encV) = true := by
  rw [wt_row] at hb
  have hs := sum_some row hw.1 row.length 0 0 (by omega)
  obtain ⟨p1, e1⟩ := text_ok row hw (by omega)
  obtain ⟨p2, e2⟩ := rtext_ok row hw (by omega)
  unfold law08_TupleTexts_pre law08_TupleTexts
  rw [List.length_map]
  simp only [show ((0 : Int)) = ((0 : Nat) : Int) from rfl] at *
  rw [hs, p1, p2, e1, e2]
  simp [br_if]
end Go.Sim.M
