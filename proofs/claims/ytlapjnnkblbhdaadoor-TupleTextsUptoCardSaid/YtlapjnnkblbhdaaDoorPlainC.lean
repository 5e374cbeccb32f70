/- The law that rows fit kinds as defined. -/
import Derived.Test.YtlapjnnkblbhdaaDoorLA
import Derived.Test.YtlapjnnkblbhdaaDoorPlainA
set_option linter.unusedVariables false
set_option linter.unusedSimpArgs false
set_option maxRecDepth 100000
namespace Go.Sim.M
open Go.RowKit

/-- Two loops that count up and do the same in each round. -/
theorem iter_count2 {ρ : Type} {step1 step2 : Int → Option (Int ⊕ ρ)} {len : Nat} (h : ∀ n : Nat, n ≤ len → step1 n = step2 n ∧ ((∃ r, step1 n = some (.inr r)) ∨ (n < len ∧ step1 n = some (.inl ((n + 1 : Nat) : Int))))) :
    ∀ k n : Nat, n + k = len → Iter step1 (n : Int) = Iter step2 (n : Int) ∧ (Iter step1 (n : Int)).isSome = true
  | 0, n, hk => by
    obtain ⟨e, hr⟩ := h n (by omega)
    rcases hr with ⟨r, hr⟩ | ⟨hlt, _⟩
    · rw [iter_end hr, iter_end (e ▸ hr)]; exact ⟨rfl, rfl⟩
    · omega
  | k + 1, n, hk => by
    obtain ⟨e, hr⟩ := h n (by omega)
    rcases hr with ⟨r, hr⟩ | ⟨hlt, hr⟩
    · rw [iter_end hr, iter_end (e ▸ hr)]; exact ⟨rfl, rfl⟩
    · rw [iter_step hr, iter_step (step := step2) (e.symm.trans hr)]; exact iter_count2 h k (n + 1) (by omega)

theorem printable_some (s : List UInt8) (hs : s.length ≤ maxLen) : (Iter (ref07_Printable_l0_step s) (0 : Int)).isSome = true := by
  refine (iter_count2 (step2 := ref07_Printable_l0_step s) (len := s.length) (fun n hn => ⟨rfl, ?_⟩) s.length 0 (by omega)).2
  by_cases h : n < s.length
  · have h' : (n : Int) < (s.length : Int) := by omega
    simp only [ref07_Printable_l0_step, br_if, h', wrap_nat (show n + 1 ≤ maxLen by omega)]
    simp only [Int.toNat_natCast, decide_true, Bool.and_true, decide_eq_true_eq, show (0 : Int) ≤ (n : Int) by omega, if_true]
    generalize ((s.getD n 0).toNat : Int) = c
    by_cases h1 : c < 32
    · exact .inl ⟨(true, false, ()), by simp [h1]⟩
    · by_cases h2 : c > 126
      · exact .inl ⟨(true, false, ()), by simp [h1, h2]⟩
      · exact .inr ⟨h, by simp [h1, h2]⟩
  · have h' : ¬ (n : Int) < (s.length : Int) := by omega
    exact .inl ⟨(false, false, ()), by simp [ref07_Printable_l0_step, br_if, h']⟩

theorem printable_ref (s : List UInt8) : value_printable s = ref07_Printable s := rfl
theorem printable_pre (s : List UInt8) (hs : s.length ≤ maxLen) : ref07_Printable_pre s = true := by
  unfold ref07_Printable_pre; rw [printable_some s hs]; rfl
theorem printable_pre' (s : List UInt8) (hs : s.length ≤ maxLen) : value_printable_pre s = true := printable_pre s hs
theorem valid_ref (k i : Int) (t : List UInt8) : value_Valid k i t = ref07_Valid k i t := rfl
theorem valid_pre (k i : Int) (t : List UInt8) (hs : t.length ≤ maxLen) : ref07_Valid_pre k i t = true := by
  unfold ref07_Valid_pre; rw [printable_pre t hs]; simp [br_if]
theorem valid_pre' (k i : Int) (t : List UInt8) (hs : t.length ≤ maxLen) : value_Valid_pre k i t = true := valid_pre k i t hs

theorem fits_loops (row : Row) (kinds : List Int) (hw : row.wf) (hk : row.length = kinds.length) :
    Iter (tuple_Fits_l0_step (kinds.map (AV.int .i64)) (row.map encV) ((row.length : Nat) : Int)) (0 : Int) = Iter (ref08_Fits_l0_step (row.map encV) (kinds.map (AV.int .i64))) (0 : Int) ∧ (Iter (tuple_Fits_l0_step (kinds.map (AV.int .i64)) (row.map encV) ((row.length : Nat) : Int)) (0 : Int)).isSome = true := by
  refine iter_count2 (len := row.length) (fun n hn => ?_) row.length 0 (by omega)
  by_cases h : n < row.length
  · have h' : (n : Int) < (row.length : Int) := by omega
    have h2 : n < kinds.length := by omega
    have h2' : (n : Int) < (kinds.length : Int) := by omega
    have hl := hw.1
    have hv := (hw.2 row[n] (List.getElem_mem h)).2.2
    have e1 : tuple_Fits_l0_step (kinds.map (AV.int .i64)) (row.map encV) ((row.length : Nat) : Int) (n : Int) = if value_Valid row[n].k row[n].i row[n].t = false ∨ (row[n].k ≠ 0 ∧ row[n].k ≠ kinds[n]) then some (.inr (true, false, ())) else some (.inl ((n + 1 : Nat) : Int)) := by
      simp only [tuple_Fits_l0_step, br_if, List.length_map, h', h2', decide_true, Int.toNat_natCast, getD_map encV _ _ h, getD_map (AV.int .i64) _ _ h2, cells_encV, shs_encV, wrap_nat (show n + 1 ≤ maxLen by omega)]
      simp [h, h2, AV.toInt, AV.toStr, AV.cells, hasSh1, valid_pre' _ _ _ hv]
      by_cases q1 : value_Valid row[n].k row[n].i row[n].t = false
      · simp [q1]
      · by_cases q2 : row[n].k = kinds[n] <;> by_cases q3 : row[n].k = 0 <;> simp [q1, q2, q3]
    have e2 : ref08_Fits_l0_step (row.map encV) (kinds.map (AV.int .i64)) (n : Int) = if value_Valid row[n].k row[n].i row[n].t = false ∨ (row[n].k ≠ 0 ∧ row[n].k ≠ kinds[n]) then some (.inr (true, false, ())) else some (.inl ((n + 1 : Nat) : Int)) := by
      simp only [ref08_Fits_l0_step, br_if, List.length_map, h', h2', decide_true, Int.toNat_natCast, getD_map encV _ _ h, getD_map (AV.int .i64) _ _ h2, cells_encV, shs_encV, wrap_nat (show n + 1 ≤ maxLen by omega)]
      simp [h, h2, AV.toInt, AV.toStr, AV.cells, hasSh1, valid_pre _ _ _ hv, ← valid_ref]
      by_cases q1 : value_Valid row[n].k row[n].i row[n].t = false
      · simp [q1]
      · by_cases q2 : row[n].k = kinds[n] <;> by_cases q3 : row[n].k = 0 <;> simp [q1, q2, q3]
    rw [e1, e2]
    refine ⟨rfl, ?_⟩
    split
    · exact .inl ⟨_, rfl⟩
    · exact .inr ⟨h, rfl⟩
  · have h' : ¬ (n : Int) < (row.length : Int) := by omega
    refine ⟨by simp [tuple_Fits_l0_step, ref08_Fits_l0_step, br_if, h'], .inl ⟨(false, false, ()), by simp [tuple_Fits_l0_step, br_if, h']⟩⟩

theorem law_fits (row : Row) (kinds : List Int) (hw : row.wf) (hk : kinds.length ≤ maxLen) : law08_TupleFits_pre (row.map encV) (kinds.map (AV.int .i64)) = true ∧ law08_TupleFits (row.map encV) (kinds.map (AV.int .i64)) = true := by
  by_cases h : row.length = kinds.length
  · have hl := fits_loops row kinds hw h
    have e1 : tuple_Fits (row.map encV) (kinds.map (AV.int .i64)) = ref08_Fits (row.map encV) (kinds.map (AV.int .i64)) := by
      unfold tuple_Fits ref08_Fits
      rw [List.length_map, hl.1]
    have e2 : tuple_Fits_pre (row.map encV) (kinds.map (AV.int .i64)) = true := by
      unfold tuple_Fits_pre
      rw [List.length_map, hl.2]; simp [br_if]
    have e3 : ref08_Fits_pre (row.map encV) (kinds.map (AV.int .i64)) = true := by
      unfold ref08_Fits_pre
      rw [← hl.1, hl.2]; simp [br_if]
    unfold law08_TupleFits_pre law08_TupleFits
    rw [e1, e2, e3]; simp [br_if]
  · have hne : (((row.length : Nat) : Int) != ((kinds.length : Nat) : Int)) = true := by simp; omega
    unfold law08_TupleFits_pre law08_TupleFits tuple_Fits_pre ref08_Fits_pre tuple_Fits ref08_Fits
    simp only [List.length_map, hne]
    simp [br_if]
end Go.Sim.M
