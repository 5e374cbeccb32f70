/- The law that lists of rows are sorted, made distinct and compared as defined. -/
import Derived.Test.YtlapjnnkblbhdaaDoorL9
import Derived.Test.YtlapjnnkblbhdaaDoorPlainG
set_option linter.unusedVariables false
set_option linter.unusedSimpArgs false
set_option maxRecDepth 100000
namespace Go.Sim.M
open Go.RowKit Go.Sim.Srt

/-! ### Comparing lists -/
def lsRes : List Row → List Row → Bool × Bool × Unit
  | x :: a, y :: b => if x = y then lsRes a b else (true, false, ())
  | _, _ => (false, false, ())

theorem lsRes_eq : ∀ {a b : List Row}, a.length = b.length → br (lsRes a b).1 (lsRes a b).2.1 true = decide (a = b)
  | [], [], _ => by simp [lsRes, br_if]
  | [], _ :: _, h => by simp at h
  | _ :: _, [], h => by simp at h
  | x :: a, y :: b, h => by
    unfold lsRes
    by_cases e : x = y
    · subst e
      rw [if_pos rfl, lsRes_eq (by simpa using h)]
      simp
    · rw [if_neg e]; simp [br_if, e]

theorem cmp0 (x y : Row) : (cmpR x y == 0) = decide (x = y) := by
  by_cases e : x = y
  · subst e; simp [cmpR_self]
  · have : cmpR x y ≠ 0 := fun h => e (cmpR_zero h)
    simp [this, e]

theorem list_go (a b : List Row) (ha : Short a) (hb : a.length = b.length) : ∀ (k n : Nat), n + k = a.length → Iter (ref08_List_l0_step (encL a) (encL b)) (n : Int) = some (lsRes (a.drop n) (b.drop n))
  | 0, n, hk => by
    have h0 : ¬ ((n : Int) < (a.length : Int)) := by omega
    rw [List.drop_eq_nil_of_le (by omega : a.length ≤ n), List.drop_eq_nil_of_le (by omega : b.length ≤ n)]
    exact iter_end (by simp only [ref08_List_l0_step, List.length_map, br_if, h0, decide_false, Bool.false_eq_true, if_false, lsRes])
  | k + 1, n, hk => by
    have h1 : n < a.length := by omega
    have h1b : n < b.length := by omega
    have h1' : (n : Int) < (a.length : Int) := by omega
    have h1b' : (n : Int) < (b.length : Int) := by omega
    have hx : a[n]? = some a[n] := by simp [h1]
    have hy : b[n]? = some b[n] := by simp [h1b]
    have h2 := ha.2 a[n] (List.getElem_mem h1)
    have h4 := ha.1
    obtain ⟨p, e⟩ := ref_eq a[n] b[n] (by unfold maxLen; omega)
    rw [drop_cons h1, drop_cons h1b, lsRes]
    have key : ref08_List_l0_step (encL a) (encL b) (n : Int) = if a[n] = b[n] then some (.inl ((n + 1 : Nat) : Int)) else some (.inr (true, false, ())) := by
      simp only [ref08_List_l0_step, List.length_map, br_if, h1', h1, h1b', h1b, decide_true, Int.toNat_natCast, gR hx, gR hy, cells_encR, List.getD_cons_zero, sh_encR, toList_encR, p, e, cmp0, Int.natCast_nonneg, Bool.and_true, if_true, wrap_nat (show n + 1 ≤ maxLen by unfold maxLen; omega)]
      by_cases h : a[n] = b[n] <;> simp [h]
    by_cases h : a[n] = b[n]
    · rw [if_pos h, iter_step (s' := ((n + 1 : Nat) : Int)) (by rw [key, if_pos h]), list_go a b ha hb k (n + 1) (by omega)]
    · rw [if_neg h]; exact iter_end (by rw [key, if_neg h])

theorem list_val (a b : List Row) (ha : Short a) : ref08_List_pre (encL a) (encL b) = true ∧ ref08_List (encL a) (encL b) = decide (a = b) := by
  unfold ref08_List_pre ref08_List
  by_cases hl : a.length = b.length
  · have := list_go a b ha hl a.length 0 (by omega)
    simp only [List.drop_zero] at this
    have d : ((a.length : Int) != (b.length : Int)) = false := by simp [hl]
    rw [show ((0 : Int)) = ((0 : Nat) : Int) from rfl, this, List.length_map, List.length_map, d]
    exact ⟨rfl, lsRes_eq hl⟩
  · have d : ((a.length : Int) != (b.length : Int)) = true := by simp; omega
    have : a ≠ b := fun e => hl (by rw [e])
    rw [List.length_map, List.length_map, d]
    simp [br_if, this]

theorem eqf_go (a b : List Row) (ha : Short a) (hb : a.length = b.length) : ∀ (k n : Nat), n + k = a.length → Iter (slices_EqualFunc_l0_step (encL b) (encL a) ((a.length : Nat) : Int)) (n : Int) = some (lsRes (a.drop n) (b.drop n))
  | 0, n, hk => by
    have h0 : ¬ ((n : Int) < (a.length : Int)) := by omega
    rw [List.drop_eq_nil_of_le (by omega : a.length ≤ n), List.drop_eq_nil_of_le (by omega : b.length ≤ n)]
    exact iter_end (by simp only [slices_EqualFunc_l0_step, slices_EqualFunc_l0_t, List.length_map, br_if, h0, decide_false, Bool.false_eq_true, if_false, lsRes])
  | k + 1, n, hk => by
    have h1 : n < a.length := by omega
    have h1b : n < b.length := by omega
    have h1' : (n : Int) < (a.length : Int) := by omega
    have h1b' : (n : Int) < (b.length : Int) := by omega
    have hx : a[n]? = some a[n] := by simp [h1]
    have hy : b[n]? = some b[n] := by simp [h1b]
    have h2 := ha.2 a[n] (List.getElem_mem h1)
    have h4 := ha.1
    obtain ⟨p, e⟩ := tuple_eq a[n] b[n] (by unfold maxLen; omega)
    rw [drop_cons h1, drop_cons h1b, lsRes]
    have key : slices_EqualFunc_l0_step (encL b) (encL a) ((a.length : Nat) : Int) (n : Int) = if a[n] = b[n] then some (.inl ((n + 1 : Nat) : Int)) else some (.inr (true, false, ())) := by
      simp only [slices_EqualFunc_l0_step, slices_EqualFunc_l0_t, List.length_map, br_if, h1', h1, h1b', h1b, decide_true, Int.toNat_natCast, gR hx, gR hy, cells_encR, List.getD_cons_zero, sh_encR, toList_encR, p, e, cmp0, Int.natCast_nonneg, Bool.and_true, if_true, wrap_nat (show n + 1 ≤ maxLen by unfold maxLen; omega)]
      by_cases h : a[n] = b[n] <;> simp [h]
    by_cases h : a[n] = b[n]
    · rw [if_pos h, iter_step (s' := ((n + 1 : Nat) : Int)) (by rw [key, if_pos h]), eqf_go a b ha hb k (n + 1) (by omega)]
    · rw [if_neg h]; exact iter_end (by rw [key, if_neg h])

theorem eqf_val (a b : List Row) (ha : Short a) : slices_EqualFunc (encL a) (encL b) = some (decide (a = b)) := by
  unfold slices_EqualFunc slices_EqualFunc_t
  by_cases hl : a.length = b.length
  · have := eqf_go a b ha hl a.length 0 (by omega)
    simp only [List.drop_zero] at this
    have d : ((a.length : Int) != (b.length : Int)) = false := by simp [hl]
    rw [show ((0 : Int)) = ((0 : Nat) : Int) from rfl, List.length_map, List.length_map, d, this]
    have := lsRes_eq hl
    simp only [br_ff, Option.isSome_some, Option.getD_some, br_tt]
    rw [← this]
    cases (lsRes a b).1 <;> rfl
  · have d : ((a.length : Int) != (b.length : Int)) = true := by simp; omega
    have : a ≠ b := fun e => hl (by rw [e])
    rw [List.length_map, List.length_map, d]
    simp [br_if, this]

/-! ### Distinct rows -/
def dd : Row → List Row → List Row
  | _, [] => []
  | p, y :: l => if y = p then dd y l else y :: dd y l
def ddup : List Row → List Row
  | [] => []
  | x :: l => x :: dd x l

theorem dd_mem : ∀ {p : Row} {l : List Row} {x : Row}, x ∈ dd p l → x ∈ l
  | p, [], x, h => by simp [dd] at h
  | p, y :: l, x, h => by
    unfold dd at h
    split at h
    · exact List.mem_cons_of_mem _ (dd_mem h)
    · rcases List.mem_cons.1 h with rfl | h
      · simp
      · exact List.mem_cons_of_mem _ (dd_mem h)
theorem dd_len : ∀ (p : Row) (l : List Row), (dd p l).length ≤ l.length
  | p, [] => by simp [dd]
  | p, y :: l => by
    unfold dd
    have := dd_len y l
    split <;> simp <;> omega
theorem ddup_short {l : List Row} (h : Short l) : Short (ddup l) := by
  cases l with
  | nil => exact h
  | cons x l =>
    have := dd_len x l
    refine ⟨by have := h.1; simp [ddup] at this ⊢; omega, fun y hy => h.2 y ?_⟩
    rcases List.mem_cons.1 hy with rfl | hy
    · simp
    · exact List.mem_cons_of_mem _ (dd_mem hy)

/-- The inner loop: kept rows, rows that count no more, the one before, the rest. -/
theorem cp_in (N k0 : Nat) (hN : N ≤ 1048576) : ∀ (R K J : List Row) (p : Row) (k2 : Nat), K.length + J.length + 1 = k0 + k2 → 1 ≤ k2 → K.length + J.length + 1 + R.length = N → (∀ x, x ∈ R → x.length ≤ 1048576) →
    ∃ T, Iter (slices_CompactFunc_A_l1_step N k0 (N - k0)) ((K.length : Int), (k2 : Int), encL (K ++ (J ++ p :: R))) = some (((K ++ dd p R).length : Int), encL ((K ++ dd p R) ++ T)) ∧ (K ++ dd p R).length + T.length = N
  | [], K, J, p, k2, h1, h2, h3, hR => by
    have hd : ¬ (k2 : Int) < ((N - k0 : Nat) : Int) := by simp at h3; omega
    refine ⟨J ++ [p], iter_end ?_, by simp [dd] at h3 ⊢; omega⟩
    simp only [slices_CompactFunc_A_l1_step, slices_CompactFunc_A_l1_t, hd, decide_false, br_ff, dd, List.append_nil]
    
  | y :: R, K, J, p, k2, h1, h2, h3, hR => by
    simp only [List.length_cons] at h3
    have d1 : (k2 : Int) < ((N - k0 : Nat) : Int) := by omega
    have d2 : ((k2 - 1 : Nat) : Int) < ((N - k0 : Nat) : Int) := by omega
    have w1 : IntKind.i64.wrap ((k2 : Int) - 1) = ((k2 - 1 : Nat) : Int) := w64 (by omega) (by omega)
    have w2 : IntKind.i64.wrap ((k2 : Int) + 1) = ((k2 + 1 : Nat) : Int) := w64 (by omega) (by omega)
    have w3 : IntKind.i64.wrap ((K.length : Int) + 1) = ((K.length + 1 : Nat) : Int) := w64 (by omega) (by omega)
    have gy : (K ++ (J ++ p :: y :: R))[k0 + k2]? = some y := by
      rw [show K ++ (J ++ p :: y :: R) = (K ++ (J ++ [p])) ++ y :: R by simp]; exact get_mid _ _ _ (by simp; omega)
    have gp : (K ++ (J ++ p :: y :: R))[k0 + (k2 - 1)]? = some p := by
      rw [show K ++ (J ++ p :: y :: R) = (K ++ J) ++ p :: y :: R by simp]; exact get_mid _ _ _ (by simp; omega)
    have l1 := lt_of_get gy
    have l2 := lt_of_get gp
    obtain ⟨pe, ev⟩ := tuple_eq y p (by have := hR y (by simp); unfold maxLen; omega)
    have e1 : (K.length : Int) < (N : Int) := by omega
    have e2 : K.length < (K ++ (J ++ p :: y :: R)).length := by simp; omega
    by_cases hyp : y = p
    · have dh : decide (y = p) = true := by simp [hyp]
      obtain ⟨T, g1, g2⟩ := cp_in N k0 hN R K (J ++ [p]) y (k2 + 1) (by simp; omega) (by omega) (by simp; omega) (fun x hx => hR x (by simp [hx]))
      refine ⟨T, ?_, by rw [dd, if_pos hyp]; exact g2⟩
      rw [dd, if_pos hyp]
      refine iter_step_of (s' := ((K.length : Int), ((k2 + 1 : Nat) : Int), encL (K ++ (J ++ [p] ++ y :: R)))) ?_ g1
      rw [show K ++ (J ++ [p] ++ y :: R) = K ++ (J ++ p :: y :: R) by simp]
      simp only [slices_CompactFunc_A_l1_step, slices_CompactFunc_A_l1_t, slices_CompactFunc_A_l1_v0, d1, d2, w1, w2, decide_true, br_tt, Int.natCast_nonneg, Bool.and_true, Int.toNat_natCast, List.length_map, l1, l2, gR gy, gR gp, cells_encR, List.getD_cons_zero, sh_encR, toList_encR, pe, ev, cmp0, dh, Bool.not_true, br_ff]
    · -- y is kept
      have dh : decide (y = p) = false := by simp [hyp]
      obtain ⟨J', hset, hJ'⟩ : ∃ J', (K ++ (J ++ p :: y :: R)).set K.length y = (K ++ [y]) ++ (J' ++ y :: R) ∧ J'.length = J.length := by
        cases J with
        | nil => exact ⟨[], by rw [List.nil_append, set_mid _ _ _ _ rfl]; simp, rfl⟩
        | cons j J => exact ⟨J ++ [p], by rw [show K ++ (j :: J ++ p :: y :: R) = K ++ j :: (J ++ p :: y :: R) by simp, set_mid _ _ _ _ rfl]; simp, by simp⟩
      obtain ⟨T, g1, g2⟩ := cp_in N k0 hN R (K ++ [y]) J' y (k2 + 1) (by simp; omega) (by omega) (by simp; omega) (fun x hx => hR x (by simp [hx]))
      refine ⟨T, ?_, by rw [dd, if_neg hyp]; simpa using g2⟩
      rw [dd, if_neg hyp]
      refine iter_step_of (s' := (((K ++ [y]).length : Int), ((k2 + 1 : Nat) : Int), encL ((K ++ [y]) ++ (J' ++ y :: R)))) ?_ (by rw [g1]; simp)
      rw [← hset, show (K ++ [y]).length = K.length + 1 by simp]
      simp only [slices_CompactFunc_A_l1_step, slices_CompactFunc_A_l1_t, slices_CompactFunc_A_l1_v0, d1, d2, w1, w2, w3, decide_true, br_tt, Int.natCast_nonneg, Bool.and_true, Int.toNat_natCast, List.length_map, l1, l2, gR gy, gR gp, cells_encR, List.getD_cons_zero, sh_encR, toList_encR, pe, ev, cmp0, dh, Bool.not_false, e1, e2, Nat.zero_add, setR]

theorem dd_same (p : Row) (R : List Row) : dd p (p :: R) = dd p R := by rw [dd, if_pos rfl]

/-- No row is the one before it. -/
def NoRep : List Row → Prop
  | [] => True
  | [_] => True
  | x :: y :: l => x ≠ y ∧ NoRep (y :: l)

theorem dd_norep : ∀ (x : Row) (l R : List Row), NoRep (x :: l) → dd x (l ++ R) = l ++ dd ((x :: l).getLast (by simp)) R
  | x, [], R, _ => rfl
  | x, y :: l, R, h => by
    have h1 : y ≠ x := fun e => h.1 e.symm
    rw [List.cons_append, dd, if_neg h1, dd_norep y l R h.2]
    simp

theorem norep_snoc : ∀ {l : List Row} {p y : Row}, NoRep (l ++ [p]) → p ≠ y → NoRep (l ++ [p] ++ [y])
  | [], p, y, _, h => ⟨h, trivial⟩
  | [x], p, y, h, h2 => ⟨h.1, h2, trivial⟩
  | x :: z :: l, p, y, h, h2 => ⟨h.1, norep_snoc (l := z :: l) h.2 h2⟩

theorem ddup_norep {l R : List Row} {p : Row} (h : NoRep (l ++ [p])) : ddup (l ++ [p] ++ R) = l ++ p :: dd p R := by
  cases l with
  | nil => rfl
  | cons x l =>
    have := dd_norep x (l ++ [p]) R (by simpa using h)
    have hg : (x :: (l ++ [p])).getLast (by simp) = p := by rw [List.getLast_cons (by simp)]; simp
    show x :: dd x (l ++ [p] ++ R) = _
    rw [this, hg]; simp

/-- The outer loop: no row so far is the one before it. -/
theorem cp_out (N : Nat) (hN : N ≤ 1048576) : ∀ (R K : List Row) (p : Row), K.length + 1 + R.length = N → NoRep (K ++ [p]) → (∀ x, x ∈ R → x.length ≤ 1048576) →
    ∃ q, Iter (slices_CompactFunc_A_l0_step N) (((K.length + 1 : Nat) : Int), encL (K ++ p :: R)) = some q ∧
      ((q.1 = true ∧ ∃ T, q.2.1 = ((ddup (K ++ [p] ++ R)).length, encL (ddup (K ++ [p] ++ R)) ++ T)) ∨ (q.1 = false ∧ q.2.2 = encL (K ++ p :: R) ∧ ddup (K ++ [p] ++ R) = K ++ p :: R))
  | [], K, p, h1, h2, h3 => by
    have hd : ¬ ((K.length + 1 : Nat) : Int) < (N : Int) := by simp at h1; omega
    refine ⟨(false, (0, []), encL (K ++ [p])), iter_end ?_, .inr ⟨rfl, rfl, ?_⟩⟩
    · simp only [slices_CompactFunc_A_l0_step, slices_CompactFunc_A_l0_t, hd, decide_false, br_ff]
    · rw [ddup_norep h2]; rfl
  | y :: R, K, p, h1, h2, h3 => by
    simp only [List.length_cons] at h1
    have d1 : ((K.length + 1 : Nat) : Int) < (N : Int) := by omega
    have d2 : ((K.length : Nat) : Int) < (N : Int) := by omega
    have d3 : ((K.length + 1 : Nat) : Int) ≤ (N : Int) := by omega
    have w1 : IntKind.i64.wrap (((K.length + 1 : Nat) : Int) - 1) = (K.length : Int) := w64 (by omega) (by omega)
    have w2 : IntKind.i64.wrap (((K.length + 1 : Nat) : Int) + 1) = ((K.length + 1 + 1 : Nat) : Int) := w64 (by omega) (by omega)
    have gy : (K ++ p :: y :: R)[K.length + 1]? = some y := by
      rw [show K ++ p :: y :: R = (K ++ [p]) ++ y :: R by simp]; exact get_mid _ _ _ (by simp)
    have gp : (K ++ p :: y :: R)[K.length]? = some p := get_mid _ _ _ rfl
    have l1 := lt_of_get gy
    have l2 := lt_of_get gp
    obtain ⟨pe, ev⟩ := tuple_eq y p (by have := h3 y (by simp); unfold maxLen; omega)
    by_cases hyp : y = p
    · have dh : decide (y = p) = true := by simp [hyp]
      obtain ⟨T, g1, g2⟩ := cp_in N (K.length + 1) hN R (K ++ [p]) [] y 1 (by simp) (by omega) (by simp; omega) (fun x hx => h3 x (by simp [hx]))
      have g1' : Iter (slices_CompactFunc_A_l1_step N (K.length + 1) (N - (K.length + 1))) (((K.length + 1 : Nat) : Int), (1 : Int), encL (K ++ p :: y :: R)) = some (((K ++ [p] ++ dd y R).length : Int), encL ((K ++ [p] ++ dd y R) ++ T)) := by
        have e : K ++ [p] ++ ([] ++ y :: R) = K ++ p :: y :: R := by simp
        rw [e] at g1
        simpa using g1
      have hres : ddup (K ++ [p] ++ y :: R) = K ++ [p] ++ dd y R := by rw [ddup_norep h2, hyp, dd_same]; simp
      obtain ⟨D, hD⟩ : ∃ D, D = K ++ [p] ++ dd y R := ⟨_, rfl⟩
      rw [← hD] at g1' g2 hres
      have z1 : ((D.length : Nat) : Int) ≤ (N : Int) := by omega
      have z2 : D.length + (N - D.length) ≤ (encL (D ++ T)).length := by simp; omega
      have z2' : D.length + (N - D.length) ≤ (D ++ T).length := by simp; omega
      have z3 : List.take D.length (encL (D ++ T)) = encL D := by simp [encL, List.map_append, List.take_append_of_le_length]
      refine ⟨_, iter_end (r := (true, (D.length, encL D ++ (List.replicate (N - D.length) AV.nils ++ List.drop (D.length + (N - D.length)) (encL (D ++ T)))), [])) ?_, .inl ⟨rfl, _, by rw [hres]⟩⟩
      simp only [slices_CompactFunc_A_l0_step, slices_CompactFunc_A_l0_t, slices_CompactFunc_A_l0_v0, slices_CompactFunc_A_l0_v1, slices_CompactFunc_A_l0_v2, slices_CompactFunc_A_l0_v3, slices_CompactFunc_A_l0_v4, slices_CompactFunc_A_l0_v5, slices_CompactFunc_A_l0_v6,
        d1, d2, d3, w1, decide_true, br_tt, Int.natCast_nonneg, Bool.and_true, Int.toNat_natCast, List.length_map, l1, l2, Nat.zero_add, gR gy, gR gp, cells_encR, List.getD_cons_zero, sh_encR, toList_encR, pe, ev, cmp0, dh, g1', Option.isSome_some, Option.getD_some, z1, z2', Nat.sub_zero, z3]
    · have dh : decide (y = p) = false := by simp [hyp]
      obtain ⟨q, g1, g2⟩ := cp_out N hN R (K ++ [p]) y (by simp; omega) (norep_snoc h2 fun e => hyp e.symm) (fun x hx => h3 x (by simp [hx]))
      have e1 : K ++ [p] ++ y :: R = K ++ p :: y :: R := by simp
      have e2 : K ++ [p] ++ [y] ++ R = K ++ [p] ++ y :: R := by simp
      rw [e1, e2] at g2
      rw [e1] at g1
      refine ⟨q, ?_, by rw [e1] at g2 ⊢; exact g2⟩
      refine iter_step_of (s' := (((K.length + 1 + 1 : Nat) : Int), encL (K ++ p :: y :: R))) ?_ (by simpa using g1)
      simp only [slices_CompactFunc_A_l0_step, slices_CompactFunc_A_l0_t, d1, d2, w1, w2, decide_true, br_tt, Int.natCast_nonneg, Bool.and_true, Int.toNat_natCast, List.length_map, l1, l2, Nat.zero_add, gR gy, gR gp, cells_encR, List.getD_cons_zero, sh_encR, toList_encR, pe, ev, cmp0, dh, br_ff]

theorem compact_ok (l : List Row) (h : Short l) : ∃ T, slices_CompactFunc_A l.length (encL l) = some ((ddup l).length, encL (ddup l) ++ T) := by
  have h1 := h.1
  unfold slices_CompactFunc_A slices_CompactFunc_A_t
  match l, h with
  | [], h => exact ⟨[], by simp [br_if, ddup]⟩
  | [x], h => exact ⟨[], by simp [br_if, ddup, dd]⟩
  | x :: y :: l, h =>
    have hd : ¬ (((x :: y :: l).length : Nat) : Int) < 2 := by simp; omega
    obtain ⟨q, g1, g2⟩ := cp_out (x :: y :: l).length h.1 (y :: l) [] x (by simp; omega) trivial (fun z hz => h.2 z (by simp at hz ⊢; exact .inr hz))
    have g1' : Iter (slices_CompactFunc_A_l0_step (x :: y :: l).length) ((1 : Int), encL (x :: y :: l)) = some q := by simpa using g1
    simp only [List.nil_append, List.singleton_append] at g2
    rcases g2 with ⟨q1, T, q2⟩ | ⟨q1, q2, q3⟩
    · refine ⟨T, ?_⟩
      simp only [slices_CompactFunc_A_v0, slices_CompactFunc_A_v1, slices_CompactFunc_A_v2, hd, decide_false, br_ff, g1', Option.isSome_some, Option.getD_some, br_tt, q1, q2]
    · refine ⟨[], ?_⟩
      simp only [slices_CompactFunc_A_v0, slices_CompactFunc_A_v1, slices_CompactFunc_A_v2, hd, decide_false, br_ff, g1', Option.isSome_some, Option.getD_some, br_tt, q1, q2, q3, List.append_nil]

/-! ### The functions of the law -/
theorem copy_AM {N : Nat} (hN : N * 24 ≤ 140737488355328) (l : List Row) (hl : l.length = N) (hr : ∀ x, x ∈ l → x.length ≤ 4398046511104) : Iter (tuple_sorted_AM_l0_step (encL l) (N : Int)) (0, (0 : Int), []) = some (N, encL l) := copy_A hN l hl hr N 0 (by omega)

theorem sortM_ok (l : List Row) (h : Short l) : ∃ r, tuple_Sort_M (encL l) = some (l.length, encL r) ∧ tuple_Sort (encL l) = some (encL r) ∧ r.Perm l ∧ Sorted cmpR r := by
  have hst : ∀ F, 20 ≤ F → ∃ l', stable cmpR F l.length l = some l' ∧ l'.Perm l ∧ Sorted cmpR l' := fun F hF => stable_spec cm_R.ord F l.length (pow_big h.1 hF) l rfl
  obtain ⟨r, h1, h2, h3⟩ := hst 1000 (by omega)
  have h4 := h.1
  have ho : ∀ x, x ∈ l → x.length ≤ 4398046511104 := fun x hx => by have := h.2 x hx; omega
  have hc : ∀ x y : Row, x.length ≤ 4398046511104 → y.length ≤ 4398046511104 → tuple_Compare_pre (x.map encV) (y.map encV) = true ∧ tuple_Compare (x.map encV) (y.map encV) = cmpR x y := fun x y hx _ => tuple_cmp x y (by unfold maxLen; omega)
  obtain ⟨e1, _⟩ := stable_A (N := l.length) (by omega) (ok := fun x => x.length ≤ 4398046511104) hc ⟨rfl, ho⟩ h1
  have e0 := copy_AM (N := l.length) (by omega) l rfl ho
  have k2 : (24 : Int) * (l.length : Int) ≤ 281474976710656 := by omega
  have k3 : (l.length : Int) ≤ 4611686018427387904 := by omega
  refine ⟨r, ?_, sorted_A (N := l.length) (by omega) hc l r rfl ho h1, h2, h3⟩
  simp only [tuple_Sort_M, tuple_Sort_M_t, tuple_sorted_AM, tuple_sorted_AM_t, tuple_sorted_AM_v0, tuple_sorted_AM_v1, tuple_sorted_AM_v2, List.length_map, e0, slices_SortStableFunc_A, slices_SortStableFunc_A_t, e1, k2, k3, decide_true, Bool.and_true, br_tt, Option.isSome_some, Option.getD_some]

theorem distinct_ok (l r : List Row) (h : Short l) (hr : tuple_Sort_M (encL l) = some (l.length, encL r)) (hp : r.Perm l) : tuple_Distinct (encL l) = some (encL (ddup r)) := by
  obtain ⟨T, hT⟩ := compact_ok r (h.perm hp)
  rw [hp.length_eq] at hT
  have t : List.take (ddup r).length (encL (ddup r) ++ T) = encL (ddup r) := by
    rw [List.take_append_of_le_length (by simp)]; exact List.take_of_length_le (by simp)
  have d : (ddup r).length ≤ (encL (ddup r) ++ T).length := by simp
  have d' : (ddup r).length ≤ (ddup r).length + T.length := by omega
  simp only [tuple_Distinct, tuple_Distinct_t, tuple_Distinct_v0, tuple_Distinct_v1, tuple_Distinct_v2, hr, Option.isSome_some, Option.getD_some, br_tt, hT, Nat.zero_add, d, d', decide_true, Bool.and_true, List.drop_zero, t]

theorem rsort_ok (l : List Row) (h : Short l) : ∃ r, ref08_Sort (encL l) = some (encL r) ∧ r.Perm l ∧ Sorted cmpR r := by
  have hro : ∀ F, 20 ≤ F → ∃ r, ref08_Order_R (F + 1) (encL l) (encO' []) = some (encL r) ∧ r.Perm l ∧ Sorted (cmpO []) r := fun F hF => rorder_ok [] (by simp [maxLen]) F l (pow_big h.1 hF) h
  obtain ⟨r, e1, e2, e3⟩ := hro 999 (by omega)
  have e1' : ref08_Order_R 1000 (encL l) [] = some (encL r) := e1
  refine ⟨r, ?_, e2, e3⟩
  unfold ref08_Sort ref08_Sort_t
  rw [e1']; rfl

theorem rd_go (all : List Row) (h : Short all) : ∀ (R K : List Row) (p : Row) (D : List Row), all = K ++ p :: R → D.length ≤ K.length + 1 →
    Iter (ref08_Distinct_l0_step (encL all)) (D.length, ((K.length + 1 : Nat) : Int), encL D) = some ((D ++ dd p R).length, encL (D ++ dd p R))
  | [], K, p, D, he, hD => by
    have hd : ¬ ((K.length + 1 : Nat) : Int) < (all.length : Int) := by rw [he]; simp
    refine iter_end ?_
    simp only [ref08_Distinct_l0_step, ref08_Distinct_l0_t, List.length_map, hd, decide_false, br_ff, dd, List.append_nil]
  | y :: R, K, p, D, he, hD => by
    have hl : all.length = K.length + 1 + (R.length + 1) := by rw [he]; simp; omega
    have h4 := h.1
    have d1 : ((K.length + 1 : Nat) : Int) < (all.length : Int) := by omega
    have d2 : ((K.length : Nat) : Int) < (all.length : Int) := by omega
    have d0 : (((K.length + 1 : Nat) : Int) == 0) = false := by simp; omega
    have w1 : IntKind.i64.wrap (((K.length + 1 : Nat) : Int) - 1) = (K.length : Int) := w64 (by omega) (by omega)
    have w2 : IntKind.i64.wrap (((K.length + 1 : Nat) : Int) + 1) = ((K.length + 1 + 1 : Nat) : Int) := w64 (by omega) (by omega)
    have gy : all[K.length + 1]? = some y := by
      rw [he, show K ++ p :: y :: R = (K ++ [p]) ++ y :: R by simp]; exact get_mid _ _ _ (by simp)
    have gp : all[K.length]? = some p := by rw [he]; exact get_mid _ _ _ rfl
    have l1 := lt_of_get gy
    have l2 := lt_of_get gp
    obtain ⟨pe, ev⟩ := ref_eq p y (by have := h.2 p (mem_of_get gp); unfold maxLen; omega)
    by_cases hyp : y = p
    · have dh : decide (p = y) = true := by simp [hyp]
      rw [dd, if_pos hyp]
      refine iter_step_of (s' := (D.length, (((K ++ [p]).length + 1 : Nat) : Int), encL D)) ?_ (rd_go all h R (K ++ [p]) y D (by rw [he]; simp) (by simp; omega))
      rw [show (K ++ [p]).length = K.length + 1 by simp]
      simp only [ref08_Distinct_l0_step, ref08_Distinct_l0_t, ref08_Distinct_l0_v0, ref08_Distinct_l0_v1, List.length_map, d0, d1, d2, w1, w2, decide_true, br_tt, br_ff, Int.natCast_nonneg, Bool.and_true, Int.toNat_natCast, l1, l2, gR gy, gR gp, cells_encR, List.getD_cons_zero, sh_encR, toList_encR, pe, ev, cmp0, dh, Bool.not_true]
    · have dh : decide (p = y) = false := by simp; exact fun e => hyp e.symm
      have m1 : (D.length + 1) * 24 ≤ 140737488355328 := by omega
      have m2 : D.length + 1 ≤ 4611686018427387904 := by omega
      have sn : encL D ++ [AV.list 3 (y.map encV)] = encL (D ++ [y]) := by simp [encL, encR]
      rw [dd, if_neg hyp]
      refine iter_step_of (s' := ((D ++ [y]).length, (((K ++ [p]).length + 1 : Nat) : Int), encL (D ++ [y]))) ?_ (by rw [rd_go all h R (K ++ [p]) y (D ++ [y]) (by rw [he]; simp) (by simp; omega)]; simp)
      rw [show (K ++ [p]).length = K.length + 1 by simp, show (D ++ [y]).length = D.length + 1 by simp]
      simp only [ref08_Distinct_l0_step, ref08_Distinct_l0_t, ref08_Distinct_l0_v0, ref08_Distinct_l0_v1, List.length_map, d0, d1, d2, w1, w2, decide_true, br_tt, br_ff, Int.natCast_nonneg, Bool.and_true, Int.toNat_natCast, l1, l2, gR gy, gR gp, cells_encR, List.getD_cons_zero, sh_encR, toList_encR, pe, ev, cmp0, dh, Bool.not_false, beq_self_eq_true, m1, m2, sn]

theorem rdistinct_ok (l r : List Row) (h : Short l) (hr : ref08_Sort (encL l) = some (encL r)) (hp : r.Perm l) : ref08_Distinct (encL l) = some (encL (ddup r)) := by
  have hs := h.perm hp
  have hi : Iter (ref08_Distinct_l0_step (encL r)) (0, (0 : Int), []) = some ((ddup r).length, encL (ddup r)) := by
    match r, hs with
    | [], _ => exact iter_end (by simp [ref08_Distinct_l0_step, ref08_Distinct_l0_t, br_if, ddup])
    | x :: R, hs =>
      have h4 := hs.1
      have gx : (x :: R)[0]? = some x := rfl
      have d1 : (0 : Int) < ((x :: R).length : Int) := by simp only [List.length_cons]; omega
      have d2 : 0 < (x :: R).length := by simp
      have sn : ([] : List AV) ++ [AV.list 3 (x.map encV)] = encL [x] := by simp [encL, encR]
      have := rd_go (x :: R) hs R [] x [x] rfl (by simp)
      refine iter_step_of (s' := (1, (1 : Int), encL [x])) ?_ (by simpa [ddup] using this)
      have g0 : (encL (x :: R)).getD 0 .top = encR x := gR gx
      simp only [ref08_Distinct_l0_step, ref08_Distinct_l0_t, ref08_Distinct_l0_v0, ref08_Distinct_l0_v1, List.length_map, d1, d2, decide_true, br_tt, beq_self_eq_true, Int.le_refl, Bool.and_true, Int.toNat_zero, g0, cells_encR, List.getD_cons_zero, sh_encR, toList_encR, List.length_nil, sn]
      rfl
  have t : List.take (ddup r).length (encL (ddup r)) = encL (ddup r) := List.take_of_length_le (by simp)
  simp only [ref08_Distinct, ref08_Distinct_t, ref08_Distinct_v0, ref08_Distinct_v1, ref08_Distinct_v2, hr, Option.isSome_some, Option.getD_some, br_tt, hi, Nat.zero_add, List.length_map, Nat.le_refl, decide_true, Bool.and_true, List.drop_zero, t]

theorem law_sorts (a b : List Row) (ha : Short a) (hb : Short b) : law08_TupleSorts (encL a) (encL b) = some true := by
  obtain ⟨r, e1, e1', p1, s1⟩ := sortM_ok a ha
  obtain ⟨rb, _, e2', p2, s2⟩ := sortM_ok b hb
  obtain ⟨r', e3, p3, s3⟩ := rsort_ok a ha
  obtain ⟨rb', e4, p4, s4⟩ := rsort_ok b hb
  obtain rfl : r = r' := sorted_one cm_R (fun _ _ => cmpR_zero) (p1.trans p3.symm) s1 s3
  obtain rfl : rb = rb' := sorted_one cm_R (fun _ _ => cmpR_zero) (p2.trans p4.symm) s2 s4
  have hs := ha.perm p1
  obtain ⟨a1, a2⟩ := list_ok r hs
  obtain ⟨b1, b2⟩ := list_ok (ddup r) (ddup_short hs)
  obtain ⟨c1, c2⟩ := list_val r rb hs
  have f1 := distinct_ok a r ha e1 p1
  have f2 := rdistinct_ok a r ha e3 p1
  have f3 : tuple_Same (encL a) (encL b) = some (decide (r = rb)) := by
    unfold tuple_Same tuple_Same_t
    rw [e1', e2']
    simp only [Option.isSome_some, Option.getD_some, br_tt, eqf_val r rb hs]
  have f4 : ref08_Same (encL a) (encL b) = some (decide (r = rb)) := by
    unfold ref08_Same ref08_Same_t
    rw [e3, e4]
    simp only [Option.isSome_some, Option.getD_some, br_tt, c1, c2]
  have hl := p1.length_eq
  have t : List.take a.length (encL r) = encL r := List.take_of_length_le (by simp; omega)
  have d : a.length ≤ r.length := by omega
  unfold law08_TupleSorts law08_TupleSorts_t
  simp only [law08_TupleSorts_v0, e1, e3, f1, f2, f3, f4, Option.isSome_some, Option.getD_some, br_tt, List.length_map, Nat.zero_add, d, decide_true, Bool.and_true, List.drop_zero, t, a1, a2, b1, b2, beq_self_eq_true]
  cases law08_short (encL a) <;> cases law08_short (encL b) <;> rfl

theorem card_sorts (a b : List Row) (w0 : a.length ≤ maxLen ∧ ∀ r, r ∈ a → r.wf) (w1 : b.length ≤ maxLen ∧ ∀ r, r ∈ b → r.wf) (hb : (AV.list 1 (encL a)).wt + (AV.list 1 (encL b)).wt ≤ 1048576) : law08_TupleSorts (encL a) (encL b) = some true :=
  law_sorts a b (short_of a (by omega)) (short_of b (by omega))

end Go.Sim.M
