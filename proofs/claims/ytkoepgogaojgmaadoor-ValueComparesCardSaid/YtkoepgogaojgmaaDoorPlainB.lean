/- The plain laws of the order of values. -/
import Derived.Test.YtkoepgogaojgmaaDoorL8
set_option linter.unusedVariables false
set_option linter.unusedSimpArgs false
set_option maxRecDepth 100000
namespace Go.Sim.M
open Go.RowKit

theorem cb_range : ∀ a b : List UInt8, Lib.compareBytes a b = -1 ∨ Lib.compareBytes a b = 0 ∨ Lib.compareBytes a b = 1
  | [], [] => by simp [Lib.compareBytes]
  | [], _ :: _ => by simp [Lib.compareBytes]
  | _ :: _, [] => by simp [Lib.compareBytes]
  | x :: a, y :: b => by
    unfold Lib.compareBytes
    split
    · simp
    · split
      · simp
      · exact cb_range a b

theorem cb_swap : ∀ a b : List UInt8, Lib.compareBytes b a = -(Lib.compareBytes a b)
  | [], [] => by simp [Lib.compareBytes]
  | [], _ :: _ => by simp [Lib.compareBytes]
  | _ :: _, [] => by simp [Lib.compareBytes]
  | x :: a, y :: b => by
    unfold Lib.compareBytes
    have ih := cb_swap a b
    by_cases h1 : x < y
    · have h2 : ¬ y < x := fun h => absurd (UInt8.lt_trans h1 h) (UInt8.lt_irrefl x)
      simp [h1, h2]
    · by_cases h2 : y < x
      · simp [h1, h2]
      · simp [h1, h2, ih]

theorem cb_eq : ∀ a b : List UInt8, Lib.compareBytes a b = 0 ↔ a = b
  | [], [] => by simp [Lib.compareBytes]
  | [], _ :: _ => by simp [Lib.compareBytes]
  | _ :: _, [] => by simp [Lib.compareBytes]
  | x :: a, y :: b => by
    unfold Lib.compareBytes
    have ih := cb_eq a b
    by_cases h1 : x < y
    · have : x ≠ y := fun e => by subst e; exact UInt8.lt_irrefl x h1
      simp [h1, this]
    · by_cases h2 : y < x
      · have : x ≠ y := fun e => by subst e; exact UInt8.lt_irrefl x h2
        simp [h1, h2, this]
      · have : x = y := UInt8.le_antisymm (UInt8.not_lt.1 h2) (UInt8.not_lt.1 h1)
        simp [h1, h2, this, ih]

theorem cb_trans : ∀ a b c : List UInt8, Lib.compareBytes a b ≤ 0 → Lib.compareBytes b c ≤ 0 → Lib.compareBytes a c ≤ 0
  | [], _, [], _, _ => by simp [Lib.compareBytes]
  | [], _, _ :: _, _, _ => by simp [Lib.compareBytes]
  | _ :: _, [], _, h, _ => by simp [Lib.compareBytes] at h
  | _ :: _, _ :: _, [], _, h => by simp [Lib.compareBytes] at h
  | x :: a, y :: b, z :: c, h1, h2 => by
    unfold Lib.compareBytes at h1 h2 ⊢
    have ih := cb_trans a b c
    by_cases p1 : x < y
    · by_cases p2 : y < z
      · simp [UInt8.lt_trans p1 p2]
      · by_cases p3 : z < y
        · simp [p2, p3] at h2
        · have : y = z := UInt8.le_antisymm (UInt8.not_lt.1 p3) (UInt8.not_lt.1 p2)
          subst this; simp [p1]
    · by_cases q1 : y < x
      · simp [p1, q1] at h1
      · have : x = y := UInt8.le_antisymm (UInt8.not_lt.1 q1) (UInt8.not_lt.1 p1)
        subst this
        simp only [p1, if_false] at h1
        by_cases p2 : x < z
        · simp [p2]
        · by_cases p3 : z < x
          · simp [p2, p3] at h2
          · simp only [p2, p3, if_false] at h2 ⊢
            exact ih h1 h2

theorem cb_less (a b : List UInt8) : Op.bytesLess a b = decide (Lib.compareBytes a b < 0) := by
  induction a generalizing b with
  | nil => cases b <;> simp [Op.bytesLess, Lib.compareBytes]
  | cons x a ih =>
    cases b with
    | nil => simp [Op.bytesLess, Lib.compareBytes]
    | cons y b =>
      unfold Op.bytesLess Lib.compareBytes
      by_cases h1 : x < y
      · simp [h1]
      · by_cases h2 : y < x
        · have : x ≠ y := fun e => by subst e; exact UInt8.lt_irrefl x h2
          simp [h1, h2, this]
        · have : x = y := UInt8.le_antisymm (UInt8.not_lt.1 h2) (UInt8.not_lt.1 h1)
          simp [h1, h2, this, ih]

theorem ci_eq (x y : Int) : cmp_Compare_int x y = if x < y then -1 else if x > y then 1 else 0 := by
  unfold cmp_Compare_int cmp_isNaN_int
  have e : (x != x) = false := by simp
  have f : (y != y) = false := by simp
  rw [e, f]
  simp only [br_if, br_ff, decide_eq_true_eq, Bool.false_eq_true, if_false]

theorem or3_eq (p q r : Int) : cmp_Or_int3 p q r = if p ≠ 0 then p else if q ≠ 0 then q else r := by
  unfold cmp_Or_int3
  simp only [br_if, bne_iff_ne]
  split
  · rfl
  · split
    · rfl
    · split
      · rfl
      · rename_i h; simpa using (Classical.not_not.1 h).symm

section
variable (ak ai bk bi ck ci : Int) (at' bt ct : List UInt8)

theorem v_eq : value_Compare ak ai at' bk bi bt = if ak < bk then -1 else if ak > bk then 1 else if ai < bi then -1 else if ai > bi then 1 else Lib.compareBytes at' bt := by
  unfold value_Compare
  rw [or3_eq, ci_eq, ci_eq]
  by_cases h1 : ak < bk
  · simp [h1]
  · by_cases h2 : ak > bk
    · simp [h1, h2]
    · by_cases h3 : ai < bi
      · simp [h1, h2, h3]
      · by_cases h4 : ai > bi <;> simp [h1, h2, h3, h4]

theorem v_ref : value_Compare ak ai at' bk bi bt = ref07_Compare ak ai at' bk bi bt := by
  rw [v_eq]
  unfold ref07_Compare ref07_sign
  rw [cb_less]
  simp only [br_if, decide_eq_true_eq, bne_iff_ne]
  by_cases h1 : ak < bk
  · have : ak ≠ bk := by omega
    simp [h1, this]
  · by_cases h2 : ak > bk
    · have : ak ≠ bk := by omega
      simp [h1, h2, this]
    · have : ak = bk := by omega
      subst this
      by_cases h3 : ai < bi
      · have : ai ≠ bi := by omega
        simp [h3, this]
      · by_cases h4 : ai > bi
        · have : ai ≠ bi := by omega
          simp [h3, h4, this]
        · have : ai = bi := by omega
          subst this
          have he := cb_eq at' bt
          rcases cb_range at' bt with h | h | h
          · have hne : at' ≠ bt := fun e => by rw [he.2 e] at h; simp at h
            simp [h, hne]
          · have := he.1 h
            subst this
            simp [h]
          · have hne : at' ≠ bt := fun e => by rw [he.2 e] at h; simp at h
            simp [h, hne]

theorem compares : law07_ValueCompares ak ai at' bk bi bt = true := by
  unfold law07_ValueCompares value_Equal ref07_Equal value_Less ref07_Less
  rw [v_ref]
  have e : ∀ r, value_decide ak ai at' bk bi bt r = ref07_truth ak ai at' bk bi bt r := fun r => rfl
  rw [e, e]
  simp [br]

theorem v_range : value_Compare ak ai at' bk bi bt = -1 ∨ value_Compare ak ai at' bk bi bt = 0 ∨ value_Compare ak ai at' bk bi bt = 1 := by
  rw [v_eq]
  split
  · simp
  · split
    · simp
    · split
      · simp
      · split
        · simp
        · exact cb_range _ _

theorem v_swap : value_Compare bk bi bt ak ai at' = -(value_Compare ak ai at' bk bi bt) := by
  rw [v_eq, v_eq, cb_swap at' bt]
  by_cases h1 : ak < bk
  · have : ¬ bk < ak := by omega
    simp [h1, this]
  · by_cases h2 : bk < ak
    · simp [h1, h2]
    · by_cases h3 : ai < bi
      · have : ¬ bi < ai := by omega
        simp [h1, h2, h3, this]
      · by_cases h4 : bi < ai <;> simp [h1, h2, h3, h4]

theorem v_zero : value_Compare ak ai at' bk bi bt = 0 ↔ ak = bk ∧ ai = bi ∧ at' = bt := by
  rw [v_eq]
  by_cases h1 : ak < bk
  · have : ak ≠ bk := by omega
    simp [h1, this]
  · by_cases h2 : ak > bk
    · have : ak ≠ bk := by omega
      simp [h1, h2, this]
    · have e : ak = bk := by omega
      by_cases h3 : ai < bi
      · have : ai ≠ bi := by omega
        simp [h1, h2, h3, this]
      · by_cases h4 : ai > bi
        · have : ai ≠ bi := by omega
          simp [h1, h2, h3, h4, this]
        · have f : ai = bi := by omega
          simp [h1, h2, h3, h4, e, f, cb_eq]

theorem v_le : value_Compare ak ai at' bk bi bt ≤ 0 ↔ ak < bk ∨ (ak = bk ∧ (ai < bi ∨ (ai = bi ∧ Lib.compareBytes at' bt ≤ 0))) := by
  rw [v_eq]
  by_cases h1 : ak < bk
  · simp [h1]
  · by_cases h2 : ak > bk
    · have : ak ≠ bk := by omega
      simp [h1, h2, this]
    · have e : ak = bk := by omega
      by_cases h3 : ai < bi
      · simp [h1, h2, h3, e]
      · by_cases h4 : ai > bi
        · have : ai ≠ bi := by omega
          simp [h1, h2, h3, h4, this]
        · have f : ai = bi := by omega
          simp [h1, h2, h3, h4, e, f]

theorem v_trans (h1 : value_Compare ak ai at' bk bi bt ≤ 0) (h2 : value_Compare bk bi bt ck ci ct ≤ 0) : value_Compare ak ai at' ck ci ct ≤ 0 := by
  rw [v_le] at h1 h2 ⊢
  rcases h1 with h1 | ⟨e1, h1⟩
  · rcases h2 with h2 | ⟨e2, h2⟩ <;> exact .inl (by omega)
  · rcases h2 with h2 | ⟨e2, h2⟩
    · exact .inl (by omega)
    · refine .inr ⟨by omega, ?_⟩
      rcases h1 with h1 | ⟨f1, h1⟩
      · rcases h2 with h2 | ⟨f2, h2⟩ <;> exact .inl (by omega)
      · rcases h2 with h2 | ⟨f2, h2⟩
        · exact .inl (by omega)
        · exact .inr ⟨by omega, cb_trans _ _ _ h1 h2⟩

theorem order : law07_ValueOrder ak ai at' bk bi bt ck ci ct = true := by
  have hr := v_range ak ai bk bi at' bt
  have hs := v_swap ak ai bk bi at' bt
  have hz := v_zero ak ai bk bi at' bt
  have ht := v_trans ak ai bk bi ck ci at' bt ct
  unfold law07_ValueOrder value_Less value_Equal value_decide
  rw [hs]
  generalize value_Compare ak ai at' bk bi bt = v at *
  generalize value_Compare bk bi bt ck ci ct = u at *
  generalize value_Compare ak ai at' ck ci ct = w at *
  have e1 : decide (v < -1) = false := by rcases hr with rfl | rfl | rfl <;> rfl
  have e2 : decide (v > 1) = false := by rcases hr with rfl | rfl | rfl <;> rfl
  have e3 : (-v != IntKind.i64.wrap (0 - v)) = false := by rcases hr with rfl | rfl | rfl <;> rfl
  have e4 : (!(v == 0) == (ak == bk && (ai == bi && (at' == bt && true)))) = false := by
    by_cases hv : v = 0
    · obtain ⟨rfl, rfl, rfl⟩ := hz.1 hv
      subst hv; simp
    · have : (ak == bk && (ai == bi && (at' == bt && true))) = false := by
        rw [Bool.eq_false_iff]
        intro h
        simp only [Bool.and_eq_true, beq_iff_eq, and_true] at h
        exact hv (hz.2 h)
      rw [this]; simp [hv]
  have e5 : v ≤ 0 → u ≤ 0 → decide (w > 0) = false := fun a b => by have := ht a b; simp; omega
  rw [e1, e2, e3, e4]
  simp only [br_ff]
  have key : ∀ t : Bool, t = true → br (decide (v ≤ 0)) (br (decide (u ≤ 0)) (br (decide (w > 0)) false t) t) t = true := fun t h => by
    by_cases hv : v ≤ 0
    · by_cases hu : u ≤ 0
      · rw [e5 hv hu]; simp [hv, hu, br, h]
      · simp [hv, hu, br, h]
    · simp [hv, br, h]
  refine key _ ?_
  by_cases hk : ak = bk
  · subst hk
    by_cases h0 : ak = 0
    · subst h0; rfl
    · have f0 : (ak == 0) = false := by simpa using h0
      have f1 : (ak != ak) = false := by simp
      rw [f0, f1]
      rcases hr with rfl | rfl | rfl <;> rfl
  · have f1 : (ak != bk) = true := by simpa using hk
    rw [f1]
    by_cases h0 : ak = 0
    · subst h0; rfl
    · have f0 : (ak == 0) = false := by simpa using h0
      rw [f0]; rfl
end
end Go.Sim.M
