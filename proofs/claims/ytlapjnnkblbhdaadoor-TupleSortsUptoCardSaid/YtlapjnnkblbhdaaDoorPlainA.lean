/- The plain laws of rows: values ra a plain structure, and the loops that compare rows. -/
import Derived.Test.YtlapjnnkblbhdaaDoorL1
import Derived.Test.YtlapjnnkblbhdaaDoorOpen
set_option linter.unusedVariables false
set_option linter.unusedSimpArgs false
set_option maxRecDepth 100000
namespace Go.Sim.M
open Go.RowKit

theorem cb_range : ∀ a b : List UInt8, Lib.compareBytes a b = -1 ∨ Lib.compareBytes a b = 0 ∨ Lib.compareBytes a b = 1
  | [], [] => by simp [Lib.compareBytes]
  | [], _ :: _ => by simp [Lib.compareBytes]
  | _ :: _, [] => by simp [Lib.compareBytes]
  | x :: a, y :: b => by
    unfold Lib.compareBytes
    split
    · simp
    · split
      · simp
      · exact cb_range a b

theorem cb_swap : ∀ a b : List UInt8, Lib.compareBytes b a = -(Lib.compareBytes a b)
  | [], [] => by simp [Lib.compareBytes]
  | [], _ :: _ => by simp [Lib.compareBytes]
  | _ :: _, [] => by simp [Lib.compareBytes]
  | x :: a, y :: b => by
    unfold Lib.compareBytes
    have ih := cb_swap a b
    by_cases h1 : x < y
    · have h2 : ¬ y < x := fun h => absurd (UInt8.lt_trans h1 h) (UInt8.lt_irrefl x)
      simp [h1, h2]
    · by_cases h2 : y < x
      · simp [h1, h2]
      · simp [h1, h2, ih]

theorem cb_eq : ∀ a b : List UInt8, Lib.compareBytes a b = 0 ↔ a = b
  | [], [] => by simp [Lib.compareBytes]
  | [], _ :: _ => by simp [Lib.compareBytes]
  | _ :: _, [] => by simp [Lib.compareBytes]
  | x :: a, y :: b => by
    unfold Lib.compareBytes
    have ih := cb_eq a b
    by_cases h1 : x < y
    · have : x ≠ y := fun e => by subst e; exact UInt8.lt_irrefl x h1
      simp [h1, this]
    · by_cases h2 : y < x
      · have : x ≠ y := fun e => by subst e; exact UInt8.lt_irrefl x h2
        simp [h1, h2, this]
      · have : x = y := UInt8.le_antisymm (UInt8.not_lt.1 h2) (UInt8.not_lt.1 h1)
        simp [h1, h2, this, ih]

theorem cb_trans : ∀ a b c : List UInt8, Lib.compareBytes a b ≤ 0 → Lib.compareBytes b c ≤ 0 → Lib.compareBytes a c ≤ 0
  | [], _, [], _, _ => by simp [Lib.compareBytes]
  | [], _, _ :: _, _, _ => by simp [Lib.compareBytes]
  | _ :: _, [], _, h, _ => by simp [Lib.compareBytes] at h
  | _ :: _, _ :: _, [], _, h => by simp [Lib.compareBytes] at h
  | x :: a, y :: b, z :: c, h1, h2 => by
    unfold Lib.compareBytes at h1 h2 ⊢
    have ih := cb_trans a b c
    by_cases p1 : x < y
    · by_cases p2 : y < z
      · simp [UInt8.lt_trans p1 p2]
      · by_cases p3 : z < y
        · simp [p2, p3] at h2
        · have : y = z := UInt8.le_antisymm (UInt8.not_lt.1 p3) (UInt8.not_lt.1 p2)
          subst this; simp [p1]
    · by_cases q1 : y < x
      · simp [p1, q1] at h1
      · have : x = y := UInt8.le_antisymm (UInt8.not_lt.1 q1) (UInt8.not_lt.1 p1)
        subst this
        simp only [p1, if_false] at h1
        by_cases p2 : x < z
        · simp [p2]
        · by_cases p3 : z < x
          · simp [p2, p3] at h2
          · simp only [p2, p3, if_false] at h2 ⊢
            exact ih h1 h2

theorem cb_less (a b : List UInt8) : Op.bytesLess a b = decide (Lib.compareBytes a b < 0) := by
  induction a generalizing b with
  | nil => cases b <;> simp [Op.bytesLess, Lib.compareBytes]
  | cons x a ih =>
    cases b with
    | nil => simp [Op.bytesLess, Lib.compareBytes]
    | cons y b =>
      unfold Op.bytesLess Lib.compareBytes
      by_cases h1 : x < y
      · simp [h1]
      · by_cases h2 : y < x
        · have : x ≠ y := fun e => by subst e; exact UInt8.lt_irrefl x h2
          simp [h1, h2, this]
        · have : x = y := UInt8.le_antisymm (UInt8.not_lt.1 h2) (UInt8.not_lt.1 h1)
          simp [h1, h2, this, ih]

theorem ci_eq (x y : Int) : cmp_Compare x y = if x < y then -1 else if x > y then 1 else 0 := by
  unfold cmp_Compare cmp_isNaN
  have e : (x != x) = false := by simp
  have f : (y != y) = false := by simp
  rw [e, f]
  simp only [br_if, br_ff, decide_eq_true_eq, Bool.false_eq_true, if_false]

theorem or3_eq (p q r : Int) : cmp_Or p q r = if p ≠ 0 then p else if q ≠ 0 then q else r := by
  unfold cmp_Or
  simp only [br_if, bne_iff_ne]
  split
  · rfl
  · split
    · rfl
    · split
      · rfl
      · rename_i h; simpa using (Classical.not_not.1 h).symm

section
variable (ak ai bk bi ck ci : Int) (at' bt ct : List UInt8)

theorem v_eq : value_Compare ak ai at' bk bi bt = if ak < bk then -1 else if ak > bk then 1 else if ai < bi then -1 else if ai > bi then 1 else Lib.compareBytes at' bt := by
  unfold value_Compare
  rw [or3_eq, ci_eq, ci_eq]
  by_cases h1 : ak < bk
  · simp [h1]
  · by_cases h2 : ak > bk
    · simp [h1, h2]
    · by_cases h3 : ai < bi
      · simp [h1, h2, h3]
      · by_cases h4 : ai > bi <;> simp [h1, h2, h3, h4]

theorem v_ref : value_Compare ak ai at' bk bi bt = ref07_Compare ak ai at' bk bi bt := by
  rw [v_eq]
  unfold ref07_Compare ref07_sign
  rw [cb_less]
  simp only [br_if, decide_eq_true_eq, bne_iff_ne]
  by_cases h1 : ak < bk
  · have : ak ≠ bk := by omega
    simp [h1, this]
  · by_cases h2 : ak > bk
    · have : ak ≠ bk := by omega
      simp [h1, h2, this]
    · have : ak = bk := by omega
      subst this
      by_cases h3 : ai < bi
      · have : ai ≠ bi := by omega
        simp [h3, this]
      · by_cases h4 : ai > bi
        · have : ai ≠ bi := by omega
          simp [h3, h4, this]
        · have : ai = bi := by omega
          subst this
          have he := cb_eq at' bt
          rcases cb_range at' bt with h | h | h
          · have hne : at' ≠ bt := fun e => by rw [he.2 e] at h; simp at h
            simp [h, hne]
          · have := he.1 h
            subst this
            simp [h]
          · have hne : at' ≠ bt := fun e => by rw [he.2 e] at h; simp at h
            simp [h, hne]

theorem v_range : value_Compare ak ai at' bk bi bt = -1 ∨ value_Compare ak ai at' bk bi bt = 0 ∨ value_Compare ak ai at' bk bi bt = 1 := by
  rw [v_eq]
  split
  · simp
  · split
    · simp
    · split
      · simp
      · split
        · simp
        · exact cb_range _ _

theorem v_swap : value_Compare bk bi bt ak ai at' = -(value_Compare ak ai at' bk bi bt) := by
  rw [v_eq, v_eq, cb_swap at' bt]
  by_cases h1 : ak < bk
  · have : ¬ bk < ak := by omega
    simp [h1, this]
  · by_cases h2 : bk < ak
    · simp [h1, h2]
    · by_cases h3 : ai < bi
      · have : ¬ bi < ai := by omega
        simp [h1, h2, h3, this]
      · by_cases h4 : bi < ai <;> simp [h1, h2, h3, h4]

theorem v_zero : value_Compare ak ai at' bk bi bt = 0 ↔ ak = bk ∧ ai = bi ∧ at' = bt := by
  rw [v_eq]
  by_cases h1 : ak < bk
  · have : ak ≠ bk := by omega
    simp [h1, this]
  · by_cases h2 : ak > bk
    · have : ak ≠ bk := by omega
      simp [h1, h2, this]
    · have e : ak = bk := by omega
      by_cases h3 : ai < bi
      · have : ai ≠ bi := by omega
        simp [h1, h2, h3, this]
      · by_cases h4 : ai > bi
        · have : ai ≠ bi := by omega
          simp [h1, h2, h3, h4, this]
        · have f : ai = bi := by omega
          simp [h1, h2, h3, h4, e, f, cb_eq]

theorem v_le : value_Compare ak ai at' bk bi bt ≤ 0 ↔ ak < bk ∨ (ak = bk ∧ (ai < bi ∨ (ai = bi ∧ Lib.compareBytes at' bt ≤ 0))) := by
  rw [v_eq]
  by_cases h1 : ak < bk
  · simp [h1]
  · by_cases h2 : ak > bk
    · have : ak ≠ bk := by omega
      simp [h1, h2, this]
    · have e : ak = bk := by omega
      by_cases h3 : ai < bi
      · simp [h1, h2, h3, e]
      · by_cases h4 : ai > bi
        · have : ai ≠ bi := by omega
          simp [h1, h2, h3, h4, this]
        · have f : ai = bi := by omega
          simp [h1, h2, h3, h4, e, f]

theorem v_trans (h1 : value_Compare ak ai at' bk bi bt ≤ 0) (h2 : value_Compare bk bi bt ck ci ct ≤ 0) : value_Compare ak ai at' ck ci ct ≤ 0 := by
  rw [v_le] at h1 h2 ⊢
  rcases h1 with h1 | ⟨e1, h1⟩
  · rcases h2 with h2 | ⟨e2, h2⟩ <;> exact .inl (by omega)
  · rcases h2 with h2 | ⟨e2, h2⟩
    · exact .inl (by omega)
    · refine .inr ⟨by omega, ?_⟩
      rcases h1 with h1 | ⟨f1, h1⟩
      · rcases h2 with h2 | ⟨f2, h2⟩ <;> exact .inl (by omega)
      · rcases h2 with h2 | ⟨f2, h2⟩
        · exact .inl (by omega)
        · exact .inr ⟨by omega, cb_trans _ _ _ h1 h2⟩

end

/-- A value of the program's own struct. -/
structure Val where
  k : Int
  i : Int
  t : List UInt8
deriving DecidableEq

instance : Inhabited Val := ⟨⟨0, 0, []⟩⟩

def encV (v : Val) : AV := .agg [.int .i64 v.k, .int .i64 v.i, .str v.t]
def Val.wf (v : Val) : Prop := (Lit.int .i64 v.k).wf = true ∧ (Lit.int .i64 v.i).wf = true ∧ v.t.length ≤ maxLen
abbrev Row := List Val
def encR (r : Row) : AV := .list 3 (r.map encV)
def Row.wf (r : Row) : Prop := r.length ≤ maxLen ∧ ∀ v, v ∈ r → v.wf

@[simp] theorem cells_encV (v : Val) : (encV v).cells = [.int .i64 v.k, .int .i64 v.i, .str v.t] := rfl
@[simp] theorem shs_encV (v : Val) : hasShs [Sh.int .i64, Sh.int .i64, Sh.str] [.int .i64 v.k, .int .i64 v.i, .str v.t] 0 = true := rfl
theorem getD_map {α : Type} (e : α → AV) (l : List α) (n : Nat) (h : n < l.length) : (l.map e).getD n .top = e l[n] := by
  simp [List.getD, h]
theorem wrap_nat {n : Nat} (h : n + 1 ≤ maxLen) : IntKind.i64.wrap ((n : Int) + 1) = ((n + 1 : Nat) : Int) := by
  unfold maxLen at h
  rw [wrap_i64 (by omega) (by omega)]; omega
theorem drop_cons {α : Type} {l : List α} {n : Nat} (h : n < l.length) : l.drop n = l[n] :: l.drop (n + 1) := List.drop_eq_getElem_cons h

/-- How two values compare. -/
noncomputable def cmpV (a b : Val) : Int := value_Compare a.k a.i a.t b.k b.i b.t

theorem cmpV_ref (a b : Val) : ref07_Compare a.k a.i a.t b.k b.i b.t = cmpV a b := (v_ref ..).symm
theorem cmpV_val (a b : Val) : value_Compare a.k a.i a.t b.k b.i b.t = cmpV a b := rfl

noncomputable def cfRes : Row → Row → Bool × Int × Unit
  | [], _ => (false, 0, ())
  | _ :: _, [] => (true, 1, ())
  | a :: ra, b :: rb => if cmpV a b ≠ 0 then (true, cmpV a b, ()) else cfRes ra rb

theorem cf_loop (ra rb : Row) (hl : ra.length ≤ maxLen) : ∀ (k n : Nat), n + k = ra.length → Iter (slices_CompareFunc_l0_step (ra.map encV) (rb.map encV) (ra.map encV) ((ra.length : Nat) : Int)) (n : Int) = some (cfRes (ra.drop n) (rb.drop n))
  | 0, n, hk => by
    rw [List.drop_eq_nil_of_le (by omega : ra.length ≤ n)]
    refine iter_end ?_
    have h0 : ¬ ((n : Int) < (ra.length : Int)) := by omega
    simp only [slices_CompareFunc_l0_step, br_if, h0, decide_false, Bool.false_eq_true, if_false, cfRes]
  | k + 1, n, hk => by
    have h1 : n < ra.length := by omega
    have h1' : (n : Int) < (ra.length : Int) := by omega
    rw [drop_cons h1]
    by_cases h2 : n < rb.length
    · rw [drop_cons h2]
      have h2' : ¬ ((n : Int) ≥ (rb.length : Int)) := by omega
      have h2'' : (n : Int) < (rb.length : Int) := by omega
      by_cases h3 : cmpV ra[n] rb[n] = 0
      · rw [iter_step (s' := ((n + 1 : Nat) : Int)) ?_, cf_loop ra rb hl k (n + 1) (by omega)]
        · simp [cfRes, h3]
        · simp only [slices_CompareFunc_l0_step, br_if, h1', h2', h2'', List.length_map, decide_true, Int.toNat_natCast, getD_map encV _ _ h1, getD_map encV _ _ h2, cells_encV, shs_encV]
          simp [h1, h2, cmpV_val, AV.toInt, AV.toStr, h3, wrap_nat (show n + 1 ≤ maxLen by omega)]
      · refine iter_end ?_
        simp only [slices_CompareFunc_l0_step, br_if, h1', h2', h2'', List.length_map, decide_true, Int.toNat_natCast, getD_map encV _ _ h1, getD_map encV _ _ h2, cells_encV, shs_encV]
        simp [h1, h2, cmpV_val, AV.toInt, AV.toStr, h3, cfRes]
    · rw [List.drop_eq_nil_of_le (by omega : rb.length ≤ n)]
      have h2' : (n : Int) ≥ (rb.length : Int) := by omega
      refine iter_end ?_
      simp only [slices_CompareFunc_l0_step, br_if, h1', h2', List.length_map, decide_true, Int.toNat_natCast, getD_map encV _ _ h1, cells_encV, shs_encV]
      simp [h1, cfRes]

/-- How two rows compare. -/
noncomputable def cmpR : Row → Row → Int
  | [], [] => 0
  | [], _ :: _ => -1
  | _ :: _, [] => 1
  | a :: ra, b :: rb => if cmpV a b ≠ 0 then cmpV a b else cmpR ra rb

theorem cf_cmp (ra rb : Row) : br (cfRes ra rb).1 (cfRes ra rb).2.1 (br (decide ((ra.length : Int) < (rb.length : Int))) (-1 : Int) 0) = cmpR ra rb := by
  induction ra generalizing rb with
  | nil => cases rb <;> simp [cfRes, cmpR, br_if]
  | cons a ra ih =>
    cases rb with
    | nil => simp [cfRes, cmpR, br_if]
    | cons b rb =>
      unfold cfRes cmpR
      split
      · simp [br_if]
      · simpa using ih rb

theorem tuple_cmp (ra rb : Row) (hl : ra.length ≤ maxLen) : tuple_Compare_pre (ra.map encV) (rb.map encV) = true ∧ tuple_Compare (ra.map encV) (rb.map encV) = cmpR ra rb := by
  have h := cf_loop ra rb hl ra.length 0 (by omega)
  simp only [List.drop_zero] at h
  unfold tuple_Compare_pre tuple_Compare slices_CompareFunc_pre slices_CompareFunc
  rw [List.length_map, List.length_map, show ((0 : Int)) = ((0 : Nat) : Int) from rfl, h]
  exact ⟨rfl, cf_cmp ra rb⟩

noncomputable def rcRes : Row → Row → Bool × Int × Unit
  | a :: ra, b :: rb => if cmpV a b ≠ 0 then (true, cmpV a b, ()) else rcRes ra rb
  | _, _ => (false, 0, ())

theorem rc_loop (ra rb : Row) (hl : ra.length ≤ maxLen) : ∀ (k n : Nat), n + k = ra.length → Iter (ref08_Compare_l0_step (ra.map encV) (rb.map encV)) (n : Int) = some (rcRes (ra.drop n) (rb.drop n))
  | 0, n, hk => by
    rw [List.drop_eq_nil_of_le (by omega : ra.length ≤ n)]
    refine iter_end ?_
    have h0 : ¬ ((n : Int) < (ra.length : Int)) := by omega
    simp only [ref08_Compare_l0_step, br_if, List.length_map, h0, decide_false, Bool.false_eq_true, if_false, rcRes]
  | k + 1, n, hk => by
    have h1 : n < ra.length := by omega
    have h1' : (n : Int) < (ra.length : Int) := by omega
    rw [drop_cons h1]
    by_cases h2 : n < rb.length
    · rw [drop_cons h2]
      have h2'' : (n : Int) < (rb.length : Int) := by omega
      by_cases h3 : cmpV ra[n] rb[n] = 0
      · rw [iter_step (s' := ((n + 1 : Nat) : Int)) ?_, rc_loop ra rb hl k (n + 1) (by omega)]
        · simp [rcRes, h3]
        · simp only [ref08_Compare_l0_step, br_if, List.length_map, h1', h2'', decide_true, Int.toNat_natCast, getD_map encV _ _ h1, getD_map encV _ _ h2, cells_encV, shs_encV]
          simp [h1, h2, cmpV_ref, AV.toInt, AV.toStr, h3, wrap_nat (show n + 1 ≤ maxLen by omega)]
      · refine iter_end ?_
        simp only [ref08_Compare_l0_step, br_if, List.length_map, h1', h2'', decide_true, Int.toNat_natCast, getD_map encV _ _ h1, getD_map encV _ _ h2, cells_encV, shs_encV]
        simp [h1, h2, cmpV_ref, AV.toInt, AV.toStr, h3, rcRes]
    · rw [List.drop_eq_nil_of_le (by omega : rb.length ≤ n)]
      have h2' : ¬ ((n : Int) < (rb.length : Int)) := by omega
      refine iter_end ?_
      simp only [ref08_Compare_l0_step, br_if, List.length_map, h1', h2', decide_true, decide_false]
      simp [rcRes]

theorem rc_cmp (ra rb : Row) : br (rcRes ra rb).1 (rcRes ra rb).2.1 (br (decide ((ra.length : Int) < (rb.length : Int))) (-1 : Int) (br (decide ((ra.length : Int) > (rb.length : Int))) 1 0)) = cmpR ra rb := by
  induction ra generalizing rb with
  | nil => cases rb <;> simp [rcRes, cmpR, br_if]
  | cons a ra ih =>
    cases rb with
    | nil =>
      have : ¬ ((ra.length : Int) + 1 < 0) := by omega
      have h2 : (0 : Int) < (ra.length : Int) + 1 := by omega
      simp [rcRes, cmpR, br_if, this, h2]
    | cons b rb =>
      unfold rcRes cmpR
      split
      · simp [br_if]
      · simpa using ih rb

theorem ref_cmp (ra rb : Row) (hl : ra.length ≤ maxLen) : ref08_Compare_pre (ra.map encV) (rb.map encV) = true ∧ ref08_Compare (ra.map encV) (rb.map encV) = cmpR ra rb := by
  have h := rc_loop ra rb hl ra.length 0 (by omega)
  simp only [List.drop_zero] at h
  unfold ref08_Compare_pre ref08_Compare
  rw [List.length_map, List.length_map, show ((0 : Int)) = ((0 : Nat) : Int) from rfl, h]
  exact ⟨rfl, rc_cmp ra rb⟩

theorem tuple_eq (ra rb : Row) (hl : ra.length ≤ maxLen) : tuple_Equal_pre (ra.map encV) (rb.map encV) = true ∧ tuple_Equal (ra.map encV) (rb.map encV) = (cmpR ra rb == 0) := by
  unfold tuple_Equal_pre tuple_Equal
  rw [(tuple_cmp ra rb hl).1, (tuple_cmp ra rb hl).2]
  exact ⟨rfl, rfl⟩

theorem ref_eq (ra rb : Row) (hl : ra.length ≤ maxLen) : ref08_Equal_pre (ra.map encV) (rb.map encV) = true ∧ ref08_Equal (ra.map encV) (rb.map encV) = (cmpR ra rb == 0) := by
  unfold ref08_Equal_pre ref08_Equal
  rw [(ref_cmp ra rb hl).1, (ref_cmp ra rb hl).2]
  exact ⟨rfl, rfl⟩
/-- An order by a column. -/
structure Orq where
  col : Int
  desc : Bool

def encO (q : Orq) : AV := .agg [.int .i64 q.col, .bool q.desc]
@[simp] theorem cells_encO (q : Orq) : (encO q).cells = [.int .i64 q.col, .bool q.desc] := rfl

def atV (r : Row) (i : Int) : Val := if i < 0 then ⟨0, 0, []⟩ else r.getD i.toNat ⟨0, 0, []⟩

theorem at_ok (r : Row) (i : Int) : tuple_at_pre (r.map encV) i = true ∧ tuple_at (r.map encV) i = ((atV r i).k, (atV r i).i, (atV r i).t) := by
  unfold tuple_at_pre tuple_at atV
  by_cases h1 : i < 0
  · simp [h1, br_if]
  · by_cases h2 : i ≥ (r.length : Int)
    · have : r.length ≤ i.toNat := by omega
      simp [h1, h2, br_if, List.getD, this]
    · have h3 : i.toNat < r.length := by omega
      have h4 : 0 ≤ i := by omega
      have h5 : i < (r.length : Int) := by omega
      simp only [br_if, List.length_map, h1, h2, h4, h5, h3, getD_map encV r _ h3, cells_encV, shs_encV, decide_true, decide_false, if_true, if_false, Bool.false_eq_true, Bool.and_true, AV.toInt, AV.toStr, List.getD_cons_zero, List.getD_cons_succ]
      refine ⟨by simp, ?_⟩
      simp [List.getD, h3]

end Go.Sim.M
