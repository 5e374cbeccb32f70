/- Orders of rows, and that sorting and merging yield the one sorted list. -/
import Derived.Test.YtlapjnnkblbhdaaDoorSrtA
import Derived.Test.YtlapjnnkblbhdaaDoorSrtB
import Derived.Test.YtlapjnnkblbhdaaDoorL7
set_option linter.unusedVariables false
set_option linter.unusedSimpArgs false
set_option maxRecDepth 100000
namespace Go.Sim.M
open Go.RowKit Go.Sim.Srt

/-- A comparison with its opposite. -/
structure Cm {α : Type} (f : α → α → Int) : Prop where
  swap : ∀ x y, f y x = -(f x y)
  trans : ∀ x y z, f x y ≤ 0 → f y z ≤ 0 → f x z ≤ 0

theorem Cm.ord {α : Type} {f : α → α → Int} (h : Cm f) : Ord f := ⟨fun x y => by rw [h.swap x y]; omega, h.trans⟩
theorem Cm.lt1 {α : Type} {f : α → α → Int} (h : Cm f) {x y z : α} (h1 : f x y < 0) (h2 : f y z ≤ 0) : f x z < 0 := by
  have h3 := h.trans x y z (by omega) h2
  have h4 := h.swap x z
  have h5 := h.swap x y
  refine Classical.byContradiction fun hn => ?_
  have := h.trans y z x h2 (by omega)
  omega
theorem Cm.lt2 {α : Type} {f : α → α → Int} (h : Cm f) {x y z : α} (h1 : f x y ≤ 0) (h2 : f y z < 0) : f x z < 0 := by
  have h3 := h.trans x y z h1 (by omega)
  have h4 := h.swap x z
  have h5 := h.swap y z
  refine Classical.byContradiction fun hn => ?_
  have := h.trans z x y (by omega) h1
  omega
theorem Cm.neg {α : Type} {f : α → α → Int} (h : Cm f) : Cm fun x y => -(f x y) := ⟨fun x y => by rw [h.swap x y], fun x y z h1 h2 => by
  have := h.trans z y x (by have := h.swap y z; omega) (by have := h.swap x y; omega)
  have := h.swap x z
  omega⟩
theorem Cm.lex {α : Type} {f g : α → α → Int} (hf : Cm f) (hg : Cm g) : Cm fun x y => if f x y ≠ 0 then f x y else g x y := ⟨fun x y => by
  have h1 := hf.swap x y
  have h2 := hg.swap x y
  by_cases h : f x y = 0
  · have : f y x = 0 := by omega
    simp [h, this, h2]
  · have : f y x ≠ 0 := by omega
    simp [h, this, h1], fun x y z h1 h2 => by
  by_cases a : f x y = 0 <;> by_cases b : f y z = 0 <;> simp only [a, b, ne_eq, not_true, not_false_iff, if_true, if_false] at h1 h2
  · have c1 : f x z ≤ 0 := hf.trans x y z (by omega) (by omega)
    have c2 : f z x ≤ 0 := hf.trans z y x (by have := hf.swap y z; omega) (by have := hf.swap x y; omega)
    have : f x z = 0 := by have := hf.swap x z; omega
    simp only [this, ne_eq, not_true, if_false]
    exact hg.trans x y z h1 h2
  · have := hf.lt2 (x := x) (y := y) (z := z) (by omega) (by omega)
    have h0 : f x z ≠ 0 := by omega
    simp only [ne_eq, h0, not_false_iff, if_true]; omega
  · have := hf.lt1 (x := x) (y := y) (z := z) (by omega) (by omega)
    have h0 : f x z ≠ 0 := by omega
    simp only [ne_eq, h0, not_false_iff, if_true]; omega
  · have := hf.lt1 (x := x) (y := y) (z := z) (by omega) (by omega)
    have h0 : f x z ≠ 0 := by omega
    simp only [ne_eq, h0, not_false_iff, if_true]; omega⟩
theorem Cm.on {α β : Type} {f : β → β → Int} (h : Cm f) (e : α → β) : Cm fun x y => f (e x) (e y) := ⟨fun x y => h.swap _ _, fun x y z => h.trans _ _ _⟩

theorem cm_V : Cm cmpV := ⟨fun x y => v_swap .., fun x y z h1 h2 => v_trans _ _ _ _ _ _ _ _ _ h1 h2⟩
theorem cmpV_zero {x y : Val} (h : cmpV x y = 0) : x = y := by
  obtain ⟨h1, h2, h3⟩ := (v_zero ..).1 h
  cases x; cases y; simp_all

theorem cmpR_swap : ∀ x y : Row, cmpR y x = -(cmpR x y)
  | [], [] => by simp [cmpR]
  | [], _ :: _ => by simp [cmpR]
  | _ :: _, [] => by simp [cmpR]
  | a :: x, b :: y => by
    have h1 := cm_V.swap a b
    have h2 := cmpR_swap x y
    unfold cmpR
    by_cases h : cmpV a b = 0
    · have : cmpV b a = 0 := by omega
      simp [h, this, h2]
    · have : cmpV b a ≠ 0 := by omega
      simp [h, this, h1]
theorem cmpR_trans : ∀ x y z : Row, cmpR x y ≤ 0 → cmpR y z ≤ 0 → cmpR x z ≤ 0
  | [], _, [], _, _ => by simp [cmpR]
  | [], _, _ :: _, _, _ => by simp [cmpR]
  | _ :: _, [], _, h, _ => by simp [cmpR] at h
  | _ :: _, _ :: _, [], _, h => by simp [cmpR] at h
  | a :: x, b :: y, c :: z, h1, h2 => by
    unfold cmpR at h1 h2 ⊢
    have ih := cmpR_trans x y z
    have hf := cm_V
    by_cases p : cmpV a b = 0 <;> by_cases q : cmpV b c = 0 <;> simp only [p, q, ne_eq, not_true, not_false_iff, if_true, if_false] at h1 h2
    · have c1 : cmpV a c ≤ 0 := hf.trans a b c (by omega) (by omega)
      have c2 : cmpV c a ≤ 0 := hf.trans c b a (by have := hf.swap b c; omega) (by have := hf.swap a b; omega)
      have : cmpV a c = 0 := by have := hf.swap a c; omega
      simp only [this, ne_eq, not_true, if_false]
      exact ih h1 h2
    · have := hf.lt2 (x := a) (y := b) (z := c) (by omega) (by omega)
      have h0 : cmpV a c ≠ 0 := by omega
      simp only [ne_eq, h0, not_false_iff, if_true]; omega
    · have := hf.lt1 (x := a) (y := b) (z := c) (by omega) (by omega)
      have h0 : cmpV a c ≠ 0 := by omega
      simp only [ne_eq, h0, not_false_iff, if_true]; omega
    · have := hf.lt1 (x := a) (y := b) (z := c) (by omega) (by omega)
      have h0 : cmpV a c ≠ 0 := by omega
      simp only [ne_eq, h0, not_false_iff, if_true]; omega
theorem cm_R : Cm cmpR := ⟨cmpR_swap, cmpR_trans⟩
theorem cmpR_zero : ∀ {x y : Row}, cmpR x y = 0 → x = y
  | [], [], _ => rfl
  | [], _ :: _, h => by simp [cmpR] at h
  | _ :: _, [], h => by simp [cmpR] at h
  | a :: x, b :: y, h => by
    unfold cmpR at h
    by_cases p : cmpV a b = 0
    · simp only [p, ne_eq, not_true, if_false] at h
      rw [cmpV_zero p, cmpR_zero h]
    · simp [p] at h
theorem cmpR_self (x : Row) : cmpR x x = 0 := by have := cmpR_swap x x; omega
theorem cmpR_range (x y : Row) : cmpR x y = -1 ∨ cmpR x y = 0 ∨ cmpR x y = 1 := by
  induction x generalizing y with
  | nil => cases y <;> simp [cmpR]
  | cons a x ih => cases y with
    | nil => simp [cmpR]
    | cons b y =>
      unfold cmpR
      split
      · exact v_range ..
      · exact ih y

/-- There is one sorted list. -/
theorem sorted_one {α : Type} {c : α → α → Int} (hc : Cm c) (h0 : ∀ x y, c x y = 0 → x = y) : ∀ {l l' : List α}, l.Perm l' → Sorted c l → Sorted c l' → l = l'
  | [], l', hp, _, _ => by simpa using hp.symm.eq_nil
  | x :: l, [], hp, _, _ => by simpa using hp.eq_nil
  | x :: l, y :: l', hp, h1, h2 => by
    have hxy : x = y := by
      obtain ⟨a1, a2⟩ := List.pairwise_cons.1 h1
      obtain ⟨b1, b2⟩ := List.pairwise_cons.1 h2
      have hx : x ∈ y :: l' := hp.mem_iff.1 (by simp)
      have hy : y ∈ x :: l := hp.mem_iff.2 (by simp)
      rcases List.mem_cons.1 hx with h | h
      · exact h
      · rcases List.mem_cons.1 hy with h' | h'
        · exact h'.symm
        · have := a1 y h'
          have := b1 x h
          have := hc.swap x y
          exact h0 x y (by omega)
    subst hxy
    rw [sorted_one hc h0 ((List.perm_cons _).1 hp) (List.pairwise_cons.1 h1).2 (List.pairwise_cons.1 h2).2]

/-! ### Orders by columns -/
theorem rat_ok (r : Row) (i : Int) : ref08_At_pre (r.map encV) i = true ∧ ref08_At (r.map encV) i = ((atV r i).k, (atV r i).i, (atV r i).t) := at_ok r i

/-- How two rows compare by one column. -/
noncomputable def colC (q : Orq) (x y : Row) : Int := if q.desc = true then -(cmpV (atV x q.col) (atV y q.col)) else cmpV (atV x q.col) (atV y q.col)

noncomputable def cmpO : List Orq → Row → Row → Int
  | [] => cmpR
  | q :: o => fun x y => if colC q x y ≠ 0 then colC q x y else cmpO o x y

theorem cm_O : ∀ o, Cm (cmpO o)
  | [] => cm_R
  | q :: o => by
    unfold cmpO
    have h : Cm (colC q) := by
      cases hq : q.desc with
      | true =>
        have : colC q = fun x y => -(cmpV (atV x q.col) (atV y q.col)) := by funext x y; simp [colC, hq]
        rw [this]; exact (cm_V.on fun x : Row => atV x q.col).neg
      | false =>
        have : colC q = fun x y => cmpV (atV x q.col) (atV y q.col) := by funext x y; simp [colC, hq]
        rw [this]; exact (cm_V.on fun x : Row => atV x q.col)
    exact h.lex (cm_O o)
theorem cmpO_zero : ∀ (o : List Orq) (x y : Row), cmpO o x y = 0 → x = y
  | [], x, y, h => cmpR_zero h
  | q :: o, x, y, h => by
    unfold cmpO at h
    split at h
    · rename_i hn; exact absurd h hn
    · exact cmpO_zero o x y h

noncomputable def o1Res : List Orq → Row → Row → Bool × Int × Unit
  | [], _, _ => (false, 0, ())
  | q :: o, x, y => if colC q x y ≠ 0 then (true, colC q x y, ()) else o1Res o x y

theorem cmpV_wrap (x y : Val) : IntKind.i64.wrap (0 - cmpV x y) = -(cmpV x y) := by
  have := v_range x.k x.i y.k y.i x.t y.t
  have : -1 ≤ cmpV x y ∧ cmpV x y ≤ 1 := by rcases this with h | h | h <;> (unfold cmpV; omega)
  rw [wrap_i64 (by omega) (by omega)]; omega

theorem o1_loop (x y : Row) (o : List Orq) (hl : o.length ≤ maxLen) : ∀ (k n : Nat), n + k = o.length → Iter (tuple_Order1_l0_step (x.map encV) (y.map encV) (o.map encO) ((o.length : Nat) : Int)) (n : Int) = some (o1Res (o.drop n) x y)
  | 0, n, hk => by
    rw [List.drop_eq_nil_of_le (by omega : o.length ≤ n)]
    have h0 : ¬ ((n : Int) < (o.length : Int)) := by omega
    exact iter_end (by simp only [tuple_Order1_l0_step, br_if, h0, decide_false, Bool.false_eq_true, if_false, o1Res])
  | k + 1, n, hk => by
    have h1 : n < o.length := by omega
    have h1' : (n : Int) < (o.length : Int) := by omega
    rw [drop_cons h1]
    obtain ⟨p1, e1⟩ := at_ok x o[n].col
    obtain ⟨p2, e2⟩ := at_ok y o[n].col
    have w := cmpV_wrap (atV x o[n].col) (atV y o[n].col)
    have sh : hasShs [Sh.int IntKind.i64, Sh.bool] [AV.int .i64 o[n].col, AV.bool o[n].desc] 0 = true := rfl
    have key : tuple_Order1_l0_step (x.map encV) (y.map encV) (o.map encO) ((o.length : Nat) : Int) (n : Int) = (if colC o[n] x y ≠ 0 then some (.inr (true, colC o[n] x y, ())) else some (.inl (((n + 1 : Nat)) : Int))) := by
      simp only [tuple_Order1_l0_step, br_if, h1', List.length_map, decide_true, Int.toNat_natCast, getD_map encO _ _ h1, cells_encO, sh, List.getD_cons_zero, List.getD_cons_succ, AV.toInt, AV.toBool, p1, p2, e1, e2, cmpV_val, w, h1, Int.natCast_nonneg, Bool.and_true, if_true, wrap_nat (show n + 1 ≤ maxLen by omega), bne_iff_ne]
      unfold colC
      cases o[n].desc <;> simp
    by_cases h : colC o[n] x y ≠ 0
    · refine iter_end ?_
      rw [key, if_pos h, o1Res, if_pos h]
    · rw [iter_step (s' := ((n + 1 : Nat) : Int)) (by rw [key, if_neg h]), o1_loop x y o hl k (n + 1) (by omega), o1Res, if_neg h]

theorem o1_cmp (x y : Row) : ∀ o : List Orq, br (o1Res o x y).1 (o1Res o x y).2.1 (cmpR x y) = cmpO o x y
  | [] => rfl
  | q :: o => by
    unfold o1Res cmpO
    split
    · simp [br_if]
    · exact o1_cmp x y o

theorem order1_ok (x y : Row) (o : List Orq) (ho : o.length ≤ maxLen) (hx : x.length ≤ maxLen) : tuple_Order1_pre (x.map encV) (y.map encV) (o.map encO) = true ∧ tuple_Order1 (x.map encV) (y.map encV) (o.map encO) = cmpO o x y := by
  have h := o1_loop x y o ho o.length 0 (by omega)
  simp only [List.drop_zero] at h
  obtain ⟨p, e⟩ := tuple_cmp x y hx
  have hc : cmp_Compare (cmpR x y) 0 = cmpR x y := by
    rw [ci_eq]
    rcases cmpR_range x y with h | h | h <;> simp [h]
  unfold tuple_Order1_pre tuple_Order1
  rw [List.length_map, show ((0 : Int)) = ((0 : Nat) : Int) from rfl, h, p, e]
  refine ⟨by simp [br_if], ?_⟩
  rw [show (((0 : Nat) : Int)) = 0 from rfl, hc]
  exact o1_cmp x y o

noncomputable def bfRes : List Orq → Row → Row → Bool × Bool × Unit
  | [], _, _ => (false, false, ())
  | q :: o, x, y => if cmpV (atV x q.col) (atV y q.col) ≠ 0 then (true, (!(decide (cmpV (atV x q.col) (atV y q.col) < 0) == q.desc)), ()) else bfRes o x y

theorem bf_loop (x y : Row) (o : List Orq) (hl : o.length ≤ maxLen) : ∀ (k n : Nat), n + k = o.length → Iter (ref08_before_l0_step (x.map encV) (y.map encV) (o.map encO)) (n : Int) = some (bfRes (o.drop n) x y)
  | 0, n, hk => by
    rw [List.drop_eq_nil_of_le (by omega : o.length ≤ n)]
    have h0 : ¬ ((n : Int) < (o.length : Int)) := by omega
    exact iter_end (by simp only [ref08_before_l0_step, List.length_map, br_if, h0, decide_false, Bool.false_eq_true, if_false, bfRes])
  | k + 1, n, hk => by
    have h1 : n < o.length := by omega
    have h1' : (n : Int) < (o.length : Int) := by omega
    rw [drop_cons h1]
    obtain ⟨p1, e1⟩ := rat_ok x o[n].col
    obtain ⟨p2, e2⟩ := rat_ok y o[n].col
    have s1 : hasSh1 (Sh.int IntKind.i64) (AV.int .i64 o[n].col) = true := rfl
    have s2 : hasSh1 Sh.bool (AV.bool o[n].desc) = true := rfl
    have key : ref08_before_l0_step (x.map encV) (y.map encV) (o.map encO) (n : Int) = (if cmpV (atV x o[n].col) (atV y o[n].col) ≠ 0 then some (.inr (true, (!(decide (cmpV (atV x o[n].col) (atV y o[n].col) < 0) == o[n].desc)), ())) else some (.inl (((n + 1 : Nat)) : Int))) := by
      simp only [ref08_before_l0_step, br_if, h1', List.length_map, decide_true, Int.toNat_natCast, getD_map encO _ _ h1, cells_encO, s1, s2, List.getD_cons_zero, List.getD_cons_succ, AV.toInt, AV.toBool, p1, p2, e1, e2, cmpV_ref, h1, Int.natCast_nonneg, Bool.and_true, if_true, wrap_nat (show n + 1 ≤ maxLen by omega), bne_iff_ne]
    by_cases h : cmpV (atV x o[n].col) (atV y o[n].col) ≠ 0
    · refine iter_end ?_
      rw [key, if_pos h, bfRes, if_pos h]
    · rw [iter_step (s' := ((n + 1 : Nat) : Int)) (by rw [key, if_neg h]), bf_loop x y o hl k (n + 1) (by omega), bfRes, if_neg h]

theorem bf_cmp (x y : Row) : ∀ o : List Orq, br (bfRes o x y).1 (bfRes o x y).2.1 (decide (cmpR x y < 0)) = decide (cmpO o x y < 0)
  | [] => rfl
  | q :: o => by
    have ih := bf_cmp x y o
    unfold bfRes cmpO colC
    by_cases h : cmpV (atV x q.col) (atV y q.col) = 0
    · simp only [h, ne_eq, not_true, if_false, Int.neg_zero, ite_self]
      exact ih
    · cases hd : q.desc with
      | true =>
        have : -(cmpV (atV x q.col) (atV y q.col)) ≠ 0 := by omega
        simp only [ne_eq, h, not_false_iff, if_true, this, br_tt]
        by_cases h2 : cmpV (atV x q.col) (atV y q.col) < 0
        · have : ¬ -(cmpV (atV x q.col) (atV y q.col)) < 0 := by omega
          simp [h2, this]; omega
        · have : -(cmpV (atV x q.col) (atV y q.col)) < 0 := by omega
          simp [h2, this]; omega
      | false =>
        simp only [ne_eq, h, not_false_iff, if_true, br_tt, Bool.false_eq_true, if_false]
        by_cases h2 : cmpV (atV x q.col) (atV y q.col) < 0 <;> simp [h2]

theorem before_ok (x y : Row) (o : List Orq) (ho : o.length ≤ maxLen) (hx : x.length ≤ maxLen) : ref08_before_pre (x.map encV) (y.map encV) (o.map encO) = true ∧ ref08_before (x.map encV) (y.map encV) (o.map encO) = decide (cmpO o x y < 0) := by
  have h := bf_loop x y o ho o.length 0 (by omega)
  simp only [List.drop_zero] at h
  obtain ⟨p, e⟩ := ref_cmp x y hx
  unfold ref08_before_pre ref08_before
  rw [show ((0 : Int)) = ((0 : Nat) : Int) from rfl, h, p, e]
  refine ⟨by simp [br_if], ?_⟩
  exact bf_cmp x y o

end Go.Sim.M
