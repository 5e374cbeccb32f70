/- The law that the columns of two rows are picked again from both together. -/
import Derived.Test.YtlapjnnkblbhdaaDoorLC
import Derived.Test.YtlapjnnkblbhdaaDoorPlainA
import Derived.Test.YtlapjnnkblbhdaaDoorSort
set_option linter.unusedVariables false
set_option linter.unusedSimpArgs false
set_option maxRecDepth 100000
namespace Go.Sim.M
open Go.RowKit Go.Sim.Srt

theorem w64' {x : Int} {n : Nat} (h : x = (n : Int)) (hn : n ≤ 9223372036854775807) : IntKind.i64.wrap x = (n : Int) := by
  rw [wrap_i64 (by omega) (by omega)]; exact h

theorem concat_ok (a b : Row) (h : a.length + b.length ≤ 1048576) : tuple_Concat (a.map encV) (b.map encV) = some ((a ++ b).map encV) := by
  have w1 : IntKind.i64.wrap ((0 : Int) + (a.length : Int)) = (a.length : Int) := w64' (by omega) (by omega)
  have w2 : IntKind.i64.wrap ((a.length : Int) + (b.length : Int)) = ((a.length + b.length : Nat) : Int) := w64' (by omega) (by omega)
  have d1 : ¬ (a.length : Int) < 0 := by omega
  have d2 : ¬ ((a.length + b.length : Nat) : Int) < 0 := by omega
  have d3 : ((a.length + b.length : Nat) : Int) ≤ 4398046511104 := by omega
  have d4 : a.length * 32 ≤ 140737488355328 := by omega
  have d5 : a.length ≤ 4611686018427387904 := by omega
  have d6 : (a.length + b.length) * 32 ≤ 140737488355328 := by omega
  have d7 : a.length + b.length ≤ 4611686018427387904 := by omega
  have t : List.take (a.length + b.length) (a.map encV ++ b.map encV) = a.map encV ++ b.map encV := List.take_of_length_le (by simp)
  have e : slices_Concat (a.map encV) (b.map encV) = some ((a ++ b).map encV) := by
    simp only [slices_Concat, slices_Concat_t, slices_Concat_v0, slices_Concat_v1, List.length_map, w1, w2, d1, d2, d3, d4, d5, d6, d7, decide_true, decide_false, br_tt, br_ff, Int.natCast_nonneg, Bool.and_true, Nat.zero_add, List.nil_append, beq_self_eq_true, List.length_append, Nat.le_refl, List.drop_zero, t, List.map_append]
  unfold tuple_Concat tuple_Concat_t
  rw [e]; rfl

def ints (l : List Nat) : List AV := l.map fun n : Nat => AV.int .i64 (n : Int)

theorem cols_loop (A B C : List AV) (la N : Nat) (hA : A.length = la) (hN : N ≤ 1048576) (hla : la ≤ N) : ∀ (k n : Nat), n + k = N →
    Iter (law08_TupleColumns_l0_step A B C (N : Int)) (min n la, n - la, (n : Int), ints (List.range (min n la)), ints ((List.range (n - la)).map (la + ·))) = some (la, N - la, ints (List.range la), ints ((List.range (N - la)).map (la + ·)))
  | 0, n, hk => by
    have : ¬ (n : Int) < (N : Int) := by omega
    refine iter_end ?_
    simp only [law08_TupleColumns_l0_step, law08_TupleColumns_l0_t, this, decide_false, br_ff]
    rw [show n = N by omega, Nat.min_eq_right hla]
  | k + 1, n, hk => by
    have h1 : (n : Int) < (N : Int) := by omega
    refine iter_step_of ?_ (cols_loop A B C la N hA hN hla k (n + 1) (by omega))
    by_cases h2 : n < la
    · have h2' : (n : Int) < (A.length : Int) := by omega
      have l1 : (ints (List.range n)).length = n := by simp [ints]
      have d1 : (n + 1) * 8 ≤ 140737488355328 := by omega
      have d2 : n + 1 ≤ 4611686018427387904 := by omega
      have s1 : ints (List.range n) ++ [AV.int .i64 (n : Int)] = ints (List.range (n + 1)) := by simp [ints, List.range_succ]
      rw [Nat.min_eq_left (by omega), Nat.min_eq_left (by omega), show n - la = 0 by omega, show n + 1 - la = 0 by omega]
      simp only [law08_TupleColumns_l0_step, law08_TupleColumns_l0_t, h1, h2', decide_true, br_tt, l1, beq_self_eq_true, d1, d2, Bool.and_true, s1, w64' (x := (n : Int) + 1) (n := n + 1) (by omega) (by omega)]
    · have h2' : ¬ (n : Int) < (A.length : Int) := by omega
      have l1 : (ints ((List.range (n - la)).map (la + ·))).length = n - la := by simp [ints]
      have d1 : (n - la + 1) * 8 ≤ 140737488355328 := by omega
      have d2 : n - la + 1 ≤ 4611686018427387904 := by omega
      have s1 : ints ((List.range (n - la)).map (la + ·)) ++ [AV.int .i64 (n : Int)] = ints ((List.range (n - la + 1)).map (la + ·)) := by
        simp only [ints, List.range_succ, List.map_append, List.map_cons, List.map_nil]
        rw [show la + (n - la) = n by omega]
      rw [Nat.min_eq_right (by omega), Nat.min_eq_right (by omega), show n + 1 - la = n - la + 1 by omega]
      simp only [law08_TupleColumns_l0_step, law08_TupleColumns_l0_t, h1, h2', decide_true, decide_false, br_tt, br_ff, l1, beq_self_eq_true, d1, d2, Bool.and_true, s1, w64' (x := (n : Int) + 1) (n := n + 1) (by omega) (by omega)]

theorem pick_loop (row : Row) (l : List Nat) (hl : l.length ≤ 1048576) : ∀ (k n : Nat), n + k = l.length →
    Iter (tuple_Pick_l0_step (row.map encV) (ints l) (l.length : Int)) (n, (n : Int), ((l.take n).map fun i : Nat => encV (atV row (i : Int)))) = some (l.length, l.map fun i : Nat => encV (atV row (i : Int)))
  | 0, n, hk => by
    have : ¬ (n : Int) < (l.length : Int) := by omega
    refine iter_end ?_
    simp only [tuple_Pick_l0_step, this, decide_false, br_ff]
    rw [List.take_of_length_le (by omega), show n = l.length by omega]
  | k + 1, n, hk => by
    have h1 : (n : Int) < (l.length : Int) := by omega
    have h2 : n < l.length := by omega
    refine iter_step_of ?_ (pick_loop row l hl k (n + 1) (by omega))
    have li : (ints l).length = l.length := by simp [ints]
    have g : (ints l).getD n .top = AV.int .i64 (l[n] : Int) := by simp [ints, List.getD, h2]
    obtain ⟨p, e⟩ := at_ok row (l[n] : Int)
    have l1 : ((l.take n).map fun i : Nat => encV (atV row (i : Int))).length = n := by simp; omega
    have d1 : (n + 1) * 32 ≤ 140737488355328 := by omega
    have d2 : n + 1 ≤ 4611686018427387904 := by omega
    have s1 : ((l.take n).map fun i : Nat => encV (atV row (i : Int))) ++ [encV (atV row (l[n] : Int))] = (l.take (n + 1)).map fun i : Nat => encV (atV row (i : Int)) := by
      rw [List.take_add_one, List.map_append]; simp [h2]
    have sh : hasSh1 (Sh.int .i64) (AV.int .i64 (l[n] : Int)) = true := rfl
    have cl : (AV.int .i64 (l[n] : Int)).cells = [AV.int .i64 (l[n] : Int)] := rfl
    have ev : AV.agg [AV.int .i64 (atV row (l[n] : Int)).k, AV.int .i64 (atV row (l[n] : Int)).i, AV.str (atV row (l[n] : Int)).t] = encV (atV row (l[n] : Int)) := rfl
    simp only [tuple_Pick_l0_step, h1, h2, li, decide_true, br_tt, Int.natCast_nonneg, Bool.and_true, Int.toNat_natCast, g, cl, List.getD_cons_zero, sh, AV.toInt, p, e, l1, beq_self_eq_true, d1, d2, ev, s1, w64' (x := (n : Int) + 1) (n := n + 1) (by omega) (by omega)]

theorem pick_ok (row : Row) (l : List Nat) (hl : l.length ≤ 1048576) : tuple_Pick_pre (row.map encV) (ints l) = true ∧ tuple_Pick (row.map encV) (ints l) = (l.map fun i : Nat => atV row (i : Int)).map encV := by
  have h := pick_loop row l hl l.length 0 (by omega)
  have h' : Iter (tuple_Pick_l0_step (row.map encV) (ints l) (l.length : Int)) ((0 : Nat), (0 : Int), []) = some (l.length, l.map fun i : Nat => encV (atV row (i : Int))) := h
  have li : (ints l).length = l.length := by simp [ints]
  have d1 : (32 : Int) * (l.length : Int) ≤ 281474976710656 := by omega
  have d2 : (l.length : Int) ≤ 4611686018427387904 := by omega
  unfold tuple_Pick_pre tuple_Pick
  rw [li, h']
  refine ⟨by simp [br_if, d1, d2], ?_⟩
  simp only [Option.getD_some, List.drop_zero]
  rw [List.take_of_length_le (by simp), List.map_map]; rfl

theorem at_left (a b : Row) : (List.range a.length).map (fun i : Nat => atV (a ++ b) (i : Int)) = a := by
  apply List.ext_getElem
  · simp
  · intro i h1 h2
    have hi : i < a.length := by simpa using h1
    have : ¬ (i : Int) < 0 := by omega
    simp [atV, List.getD, List.getElem?_append_left hi, hi]
    intro h; omega

theorem at_right (a b : Row) : ((List.range b.length).map (a.length + ·)).map (fun i : Nat => atV (a ++ b) (i : Int)) = b := by
  apply List.ext_getElem
  · simp
  · intro i h1 h2
    have hi : i < b.length := by simpa using h1
    have h0 : ¬ ((a.length : Int) + (i : Int) < 0) := by omega
    have h3 : ((a.length : Int) + (i : Int)).toNat = a.length + i := by omega
    simp [atV, List.getD, h0, h3, hi]

theorem cmpR_refl : ∀ x : Row, cmpR x x = 0
  | [] => rfl
  | a :: x => by
    have : cmpV a a = 0 := (v_zero ..).2 ⟨rfl, rfl, rfl⟩
    simp [cmpR, this, cmpR_refl x]

theorem law_columns (a b : Row) (h : a.length + b.length ≤ 1048576) : law08_TupleColumns (a.map encV) (b.map encV) = some true := by
  have e1 := concat_ok a b h
  have e2 := cols_loop (a.map encV) (b.map encV) ((a ++ b).map encV) a.length (a.length + b.length) (by simp) h (by omega) (a.length + b.length) 0 (by omega)
  rw [Nat.zero_min, Nat.zero_sub, Nat.add_sub_cancel_left] at e2
  have e2' : Iter (law08_TupleColumns_l0_step (a.map encV) (b.map encV) ((a ++ b).map encV) ((a.length + b.length : Nat) : Int)) ((0 : Nat), (0 : Nat), (0 : Int), [], []) = some (a.length, b.length, ints (List.range a.length), ints ((List.range b.length).map (a.length + ·))) := e2
  obtain ⟨p3, e3⟩ := pick_ok (a ++ b) (List.range a.length) (by simp; omega)
  obtain ⟨p4, e4⟩ := pick_ok (a ++ b) ((List.range b.length).map (a.length + ·)) (by simp; omega)
  rw [at_left] at e3
  rw [at_right] at e4
  obtain ⟨p5, e5⟩ := tuple_eq a a (by unfold maxLen; omega)
  obtain ⟨p6, e6⟩ := tuple_eq b b (by unfold maxLen; omega)
  rw [cmpR_refl] at e5 e6
  have w : IntKind.i64.wrap ((a.length : Int) + (b.length : Int)) = ((a.length + b.length : Nat) : Int) := w64' (by omega) (by omega)
  have l1 : (ints (List.range a.length)).length = a.length := by simp [ints]
  have l2 : (ints ((List.range b.length).map (a.length + ·))).length = b.length := by simp [ints]
  have t1 : List.take a.length (ints (List.range a.length)) = ints (List.range a.length) := List.take_of_length_le (by omega)
  have t2 : List.take b.length (ints ((List.range b.length).map (a.length + ·))) = ints ((List.range b.length).map (a.length + ·)) := List.take_of_length_le (by omega)
  have lc : ((a ++ b).map encV).length = a.length + b.length := by simp
  unfold law08_TupleColumns law08_TupleColumns_t
  simp only [law08_TupleColumns_v0, law08_TupleColumns_v1, law08_TupleColumns_v2, law08_TupleColumns_v3, law08_TupleColumns_v4, law08_TupleColumns_v5, law08_TupleColumns_v6, law08_TupleColumns_v7, law08_TupleColumns_v8, law08_TupleColumns_v9, law08_TupleColumns_v10, law08_TupleColumns_v11, e1, Option.isSome_some, Option.getD_some, br_tt, lc, e2', List.length_map, w, beq_self_eq_true, l1, l2, Nat.zero_add, Nat.le_refl, decide_true, Bool.and_true, List.drop_zero, t1, t2, p3, e3, p4, e4, p5, e5, p6, e6]

theorem wts_len' {α : Type} (e : α → AV) (h : ∀ a, 1 ≤ (e a).wt) : ∀ l : List α, l.length ≤ AV.wts (l.map e)
  | [] => by simp [AV.wts]
  | a :: l => by
    have := wts_len' e h l
    have := h a
    simp only [List.map_cons, AV.wts, List.length_cons]; omega

theorem card_columns (a b : Row) (w0 : a.wf) (w1 : b.wf) (hb : (AV.list 3 (a.map encV)).wt + (AV.list 3 (b.map encV)).wt ≤ 1048576) : law08_TupleColumns (a.map encV) (b.map encV) = some true := by
  have h1 := wts_len' encV (fun v => by simp [encV, AV.wt, AV.wts]) a
  have h2 := wts_len' encV (fun v => by simp [encV, AV.wt, AV.wts]) b
  simp only [AV.wt] at hb
  exact law_columns a b (by omega)
end Go.Sim.M
