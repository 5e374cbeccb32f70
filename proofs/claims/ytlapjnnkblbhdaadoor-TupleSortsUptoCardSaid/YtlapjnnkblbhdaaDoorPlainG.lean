/- The laws that rows are sorted by columns as defined, and that sorting keeps the rows. -/
import Derived.Test.YtlapjnnkblbhdaaDoorLB
import Derived.Test.YtlapjnnkblbhdaaDoorPlainF
set_option linter.unusedVariables false
set_option linter.unusedSimpArgs false
set_option maxRecDepth 100000
namespace Go.Sim.M
open Go.RowKit Go.Sim.Srt

abbrev encO' (o : List Orq) : List AV := o.map encO
/-- Rows that are short enough to be copied. -/
def Short (l : List Row) : Prop := l.length ≤ 1048576 ∧ ∀ x, x ∈ l → x.length ≤ 1048576

theorem Short.perm {l l' : List Row} (h : Short l) (hp : l'.Perm l) : Short l' := ⟨by rw [hp.length_eq]; exact h.1, fun x hx => h.2 x (hp.mem_iff.1 hx)⟩

theorem pow_big {n f : Nat} (h : n ≤ 1048576) (hf : 20 ≤ f) : n ≤ 2 ^ f := Nat.le_trans h (Nat.pow_le_pow_right (n := 2) (by omega) hf : 2 ^ 20 ≤ 2 ^ f)

theorem sort_ok (l : List Row) (h : Short l) : ∃ r, tuple_Sort (encL l) = some (encL r) ∧ r.Perm l ∧ Sorted cmpR r := by
  have hst : ∀ F, 20 ≤ F → ∃ l', stable cmpR F l.length l = some l' ∧ l'.Perm l ∧ Sorted cmpR l' := fun F hF => stable_spec cm_R.ord F l.length (pow_big h.1 hF) l rfl
  obtain ⟨r, h1, h2, h3⟩ := hst 1000 (by omega)
  have h4 := h.1
  refine ⟨r, sorted_A (N := l.length) (by omega) (c := cmpR) (fun x y hx _ => tuple_cmp x y (by unfold maxLen; omega)) l r rfl (fun x hx => by have := h.2 x hx; omega) h1, h2, h3⟩

theorem order_ok (l : List Row) (h : Short l) (o : List Orq) (ho : o.length ≤ maxLen) : ∃ r, tuple_Order (encL l) (encO' o) = some (encL r) ∧ r.Perm l ∧ Sorted (cmpO o) r := by
  have hst : ∀ F, 20 ≤ F → ∃ l', stable (cmpO o) F l.length l = some l' ∧ l'.Perm l ∧ Sorted (cmpO o) l' := fun F hF => stable_spec (cm_O o).ord F l.length (pow_big h.1 hF) l rfl
  obtain ⟨r, h1, h2, h3⟩ := hst 1000 (by omega)
  have h4 := h.1
  refine ⟨r, sorted_B (N := l.length) (by omega) (c := cmpO o) (o := encO' o) (fun x y hx _ => order1_ok x y o ho (by unfold maxLen; omega)) l r rfl (fun x hx => by have := h.2 x hx; omega) h1, h2, h3⟩

/-! ### Equal lists -/
theorem list_loop (l : List Row) (h : Short l) : ∀ (k n : Nat), n + k = l.length → Iter (ref08_List_l0_step (encL l) (encL l)) (n : Int) = some (false, false, ())
  | 0, n, hk => by
    have h0 : ¬ ((n : Int) < (l.length : Int)) := by omega
    exact iter_end (by simp only [ref08_List_l0_step, List.length_map, br_if, h0, decide_false, Bool.false_eq_true, if_false])
  | k + 1, n, hk => by
    have h1 : n < l.length := by omega
    have h1' : (n : Int) < (l.length : Int) := by omega
    have hx : l[n]? = some l[n] := by simp [h1]
    have h2 := h.2 l[n] (List.getElem_mem h1)
    obtain ⟨p, e⟩ := ref_eq l[n] l[n] (by unfold maxLen; omega)
    have h4 := h.1
    rw [iter_step (s' := ((n + 1 : Nat) : Int)) ?_, list_loop l h k (n + 1) (by omega)]
    simp only [ref08_List_l0_step, List.length_map, br_if, h1', h1, decide_true, Int.toNat_natCast, gR hx, cells_encR, List.getD_cons_zero, sh_encR, toList_encR, p, e, cmpR_self, Int.natCast_nonneg, Bool.and_true, if_true, wrap_nat (show n + 1 ≤ maxLen by unfold maxLen; omega)]
    simp

theorem list_ok (l : List Row) (h : Short l) : ref08_List_pre (encL l) (encL l) = true ∧ ref08_List (encL l) (encL l) = true := by
  have := list_loop l h l.length 0 (by omega)
  unfold ref08_List_pre ref08_List
  rw [show ((0 : Int)) = ((0 : Nat) : Int) from rfl, this]
  simp [br_if]

theorem eqf_loop (l : List Row) (h : Short l) : ∀ (k n : Nat), n + k = l.length → Iter (slices_EqualFunc_l0_step (encL l) (encL l) ((l.length : Nat) : Int)) (n : Int) = some (false, false, ())
  | 0, n, hk => by
    have h0 : ¬ ((n : Int) < (l.length : Int)) := by omega
    exact iter_end (by simp only [slices_EqualFunc_l0_step, slices_EqualFunc_l0_t, List.length_map, br_if, h0, decide_false, Bool.false_eq_true, if_false])
  | k + 1, n, hk => by
    have h1 : n < l.length := by omega
    have h1' : (n : Int) < (l.length : Int) := by omega
    have hx : l[n]? = some l[n] := by simp [h1]
    have h2 := h.2 l[n] (List.getElem_mem h1)
    obtain ⟨p, e⟩ := tuple_eq l[n] l[n] (by unfold maxLen; omega)
    have h4 := h.1
    rw [iter_step (s' := ((n + 1 : Nat) : Int)) ?_, eqf_loop l h k (n + 1) (by omega)]
    simp only [slices_EqualFunc_l0_step, slices_EqualFunc_l0_t, List.length_map, br_if, h1', h1, decide_true, Int.toNat_natCast, gR hx, cells_encR, List.getD_cons_zero, sh_encR, toList_encR, p, e, cmpR_self, Int.natCast_nonneg, Bool.and_true, if_true, wrap_nat (show n + 1 ≤ maxLen by unfold maxLen; omega)]
    simp

theorem eqf_ok (l : List Row) (h : Short l) : slices_EqualFunc (encL l) (encL l) = some true := by
  have := eqf_loop l h l.length 0 (by omega)
  unfold slices_EqualFunc slices_EqualFunc_t
  rw [show ((0 : Int)) = ((0 : Nat) : Int) from rfl, List.length_map, this]
  simp [br_if]

theorem same_ok (a b : List Row) (h : Short b) (hp : a.Perm b) : tuple_Same (encL a) (encL b) = some true := by
  obtain ⟨r, e1, p1, s1⟩ := sort_ok a (h.perm hp)
  obtain ⟨r', e2, p2, s2⟩ := sort_ok b h
  obtain rfl : r = r' := sorted_one cm_R (fun _ _ => cmpR_zero) (p1.trans (hp.trans p2.symm)) s1 s2
  unfold tuple_Same tuple_Same_t
  rw [e1, e2]
  simp only [Option.isSome_some, Option.getD_some, br_tt, eqf_ok r (h.perm p2)]

/-! ### Merging -/
theorem merged_go (a b : List Row) (o : List Orq) (ho : o.length ≤ maxLen) (ha : a.length + b.length ≤ 1048576) (hra : ∀ x, x ∈ a → x.length ≤ 1048576) (hrb : ∀ x, x ∈ b → x.length ≤ 1048576) (sa : Sorted (cmpO o) a) (sb : Sorted (cmpO o) b) :
    ∀ (n i k : Nat) (D : List Row), (a.length - i) + (b.length - k) = n → i ≤ a.length → k ≤ b.length → D.length = i + k →
      ∃ r, Iter (ref08_merged_l0_step (encL a) (encL b) (encO' o)) (D.length, (i : Int), (k : Int), encL D) = some (a.length + b.length, encL (D ++ r)) ∧ r.Perm (a.drop i ++ b.drop k) ∧ Sorted (cmpO o) r := by
  intro n
  induction n with
  | zero =>
    intro i k D hn hi hk hD
    have h1 : ¬ (i : Int) < (a.length : Int) := by omega
    have h2 : ¬ (k : Int) < (b.length : Int) := by omega
    refine ⟨[], iter_end ?_, ?_, by simp [Sorted]⟩
    · simp only [ref08_merged_l0_step, List.length_map, br_if, h1, h2, decide_false, Bool.false_eq_true, if_false, List.append_nil]
      rw [show D.length = a.length + b.length by omega]
    · rw [List.drop_eq_nil_of_le (by omega), List.drop_eq_nil_of_le (by omega)]; exact List.Perm.refl _
  | succ n ih =>
    intro i k D hn hi hk hD
    have hlen : (encL D).length = D.length := by simp
    have m1 : (D.length + 1) * 24 ≤ 140737488355328 := by omega
    have m2 : D.length + 1 ≤ 4611686018427387904 := by omega
    have snoc : ∀ x : Row, encL D ++ [AV.list 3 (x.map encV)] = encL (D ++ [x]) := fun x => by simp [encL, encR]
    have wi := wrap_nat (n := i) (show i + 1 ≤ maxLen by unfold maxLen; omega)
    have wk := wrap_nat (n := k) (show k + 1 ≤ maxLen by unfold maxLen; omega)
    by_cases hia : i < a.length
    · have i1 : (i : Int) < (a.length : Int) := by omega
      have i2 : ((i : Int) == (a.length : Int)) = false := by simp; omega
      have hx : a[i]? = some a[i] := by simp [hia]
      by_cases hkb : k < b.length
      · have k1 : (k : Int) < (b.length : Int) := by omega
        have hy : b[k]? = some b[k] := by simp [hkb]
        obtain ⟨p, e⟩ := before_ok b[k] a[i] o ho (by have := hrb b[k] (List.getElem_mem hkb); unfold maxLen; omega)
        by_cases hc : cmpO o b[k] a[i] < 0
        · obtain ⟨r, h1, h2, h3⟩ := ih i (k + 1) (D ++ [b[k]]) (by omega) hi (by omega) (by simp; omega)
          refine ⟨b[k] :: r, ?_, ?_, ?_⟩
          · refine iter_step_of (s' := ((D ++ [b[k]]).length, (i : Int), ((k + 1 : Nat) : Int), encL (D ++ [b[k]]))) ?_ (by rw [h1]; simp)
            simp only [ref08_merged_l0_step, List.length_map, br_if, i1, i2, k1, hia, hkb, decide_true, Bool.false_eq_true, if_false, if_true, Int.toNat_natCast, gR hx, gR hy, cells_encR, List.getD_cons_zero, sh_encR, toList_encR, p, e, hc, Int.natCast_nonneg, Bool.and_true, beq_self_eq_true, m1, m2, snoc, wk]
            simp
          · rw [drop_cons hkb]
            exact (h2.cons _).trans List.perm_middle.symm
          · refine List.pairwise_cons.2 ⟨fun z hz => ?_, h3⟩
            rcases List.mem_append.1 (h2.mem_iff.1 hz) with hz | hz
            · rw [drop_cons hia] at hz
              rcases List.mem_cons.1 hz with rfl | hz
              · omega
              · obtain ⟨j, hj, rfl⟩ := List.mem_iff_getElem.1 hz
                have hja : i + 1 + j < a.length := by simp at hj; omega
                have := sorted_get sa (i := i) (j := i + 1 + j) (by omega) hja
                rw [List.getElem_drop]
                exact (cm_O o).trans _ _ _ (Int.le_of_lt hc) this
            · obtain ⟨j, hj, rfl⟩ := List.mem_iff_getElem.1 hz
              have hjb : k + 1 + j < b.length := by simp at hj; omega
              rw [List.getElem_drop]
              exact sorted_get sb (i := k) (j := k + 1 + j) (by omega) hjb
        · obtain ⟨r, h1, h2, h3⟩ := ih (i + 1) k (D ++ [a[i]]) (by omega) (by omega) hk (by simp; omega)
          refine ⟨a[i] :: r, ?_, ?_, ?_⟩
          · refine iter_step_of (s' := ((D ++ [a[i]]).length, ((i + 1 : Nat) : Int), (k : Int), encL (D ++ [a[i]]))) ?_ (by rw [h1]; simp)
            simp only [ref08_merged_l0_step, List.length_map, br_if, i1, i2, k1, hia, hkb, decide_true, Bool.false_eq_true, if_false, if_true, Int.toNat_natCast, gR hx, gR hy, cells_encR, List.getD_cons_zero, sh_encR, toList_encR, p, e, hc, decide_false, Int.natCast_nonneg, Bool.and_true, beq_self_eq_true, m1, m2, snoc, wi]
            simp
          · rw [drop_cons hia]
            exact h2.cons _
          · refine List.pairwise_cons.2 ⟨fun z hz => ?_, h3⟩
            have hab : cmpO o a[i] b[k] ≤ 0 := (cm_O o).ord.le_of_not hc
            rcases List.mem_append.1 (h2.mem_iff.1 hz) with hz | hz
            · obtain ⟨j, hj, rfl⟩ := List.mem_iff_getElem.1 hz
              have hja : i + 1 + j < a.length := by simp at hj; omega
              rw [List.getElem_drop]
              exact sorted_get sa (i := i) (j := i + 1 + j) (by omega) hja
            · rw [drop_cons hkb] at hz
              rcases List.mem_cons.1 hz with rfl | hz
              · exact hab
              · obtain ⟨j, hj, rfl⟩ := List.mem_iff_getElem.1 hz
                have hjb : k + 1 + j < b.length := by simp at hj; omega
                rw [List.getElem_drop]
                exact (cm_O o).trans _ _ _ hab (sorted_get sb (i := k) (j := k + 1 + j) (by omega) hjb)
      · have k1 : ¬ (k : Int) < (b.length : Int) := by omega
        obtain ⟨r, h1, h2, h3⟩ := ih (i + 1) k (D ++ [a[i]]) (by omega) (by omega) hk (by simp; omega)
        refine ⟨a[i] :: r, ?_, ?_, ?_⟩
        · refine iter_step_of (s' := ((D ++ [a[i]]).length, ((i + 1 : Nat) : Int), (k : Int), encL (D ++ [a[i]]))) ?_ (by rw [h1]; simp)
          simp only [ref08_merged_l0_step, List.length_map, br_if, i1, i2, k1, hia, decide_true, decide_false, Bool.false_eq_true, if_false, if_true, Int.toNat_natCast, gR hx, cells_encR, List.getD_cons_zero, sh_encR, toList_encR, Int.natCast_nonneg, Bool.and_true, beq_self_eq_true, m1, m2, snoc, wi]
          simp
        · rw [drop_cons hia]
          exact h2.cons _
        · refine List.pairwise_cons.2 ⟨fun z hz => ?_, h3⟩
          rw [List.drop_eq_nil_of_le (show b.length ≤ k by omega), List.append_nil] at h2
          obtain ⟨j, hj, rfl⟩ := List.mem_iff_getElem.1 (h2.mem_iff.1 hz)
          have hja : i + 1 + j < a.length := by simp at hj; omega
          rw [List.getElem_drop]
          exact sorted_get sa (i := i) (j := i + 1 + j) (by omega) hja
    · have i1 : ¬ (i : Int) < (a.length : Int) := by omega
      have hkb : k < b.length := by omega
      have k1 : (k : Int) < (b.length : Int) := by omega
      have i2 : ((i : Int) == (a.length : Int)) = true := by simp; omega
      have hy : b[k]? = some b[k] := by simp [hkb]
      obtain ⟨r, h1, h2, h3⟩ := ih i (k + 1) (D ++ [b[k]]) (by omega) hi (by omega) (by simp; omega)
      refine ⟨b[k] :: r, ?_, ?_, ?_⟩
      · refine iter_step_of (s' := ((D ++ [b[k]]).length, (i : Int), ((k + 1 : Nat) : Int), encL (D ++ [b[k]]))) ?_ (by rw [h1]; simp)
        simp only [ref08_merged_l0_step, List.length_map, br_if, i1, i2, k1, hkb, decide_true, decide_false, Bool.false_eq_true, if_false, if_true, Int.toNat_natCast, gR hy, cells_encR, List.getD_cons_zero, sh_encR, toList_encR, Int.natCast_nonneg, Bool.and_true, beq_self_eq_true, m1, m2, snoc, wk]
        simp
      · rw [drop_cons hkb]
        exact (h2.cons _).trans List.perm_middle.symm
      · refine List.pairwise_cons.2 ⟨fun z hz => ?_, h3⟩
        rw [List.drop_eq_nil_of_le (show a.length ≤ i by omega), List.nil_append] at h2
        obtain ⟨j, hj, rfl⟩ := List.mem_iff_getElem.1 (h2.mem_iff.1 hz)
        have hjb : k + 1 + j < b.length := by simp at hj; omega
        rw [List.getElem_drop]
        exact sorted_get sb (i := k) (j := k + 1 + j) (by omega) hjb

theorem merged_ok (a b : List Row) (o : List Orq) (ho : o.length ≤ maxLen) (ha : a.length + b.length ≤ 1048576) (hra : ∀ x, x ∈ a → x.length ≤ 1048576) (hrb : ∀ x, x ∈ b → x.length ≤ 1048576) (sa : Sorted (cmpO o) a) (sb : Sorted (cmpO o) b) :
    ∃ r, ref08_merged_pre (encL a) (encL b) (encO' o) = true ∧ ref08_merged (encL a) (encL b) (encO' o) = encL r ∧ r.Perm (a ++ b) ∧ Sorted (cmpO o) r := by
  obtain ⟨r, h1, h2, h3⟩ := merged_go a b o ho ha hra hrb sa sb _ 0 0 [] rfl (Nat.zero_le _) (Nat.zero_le _) rfl
  simp only [List.drop_zero, List.nil_append] at h1 h2
  have h1' : Iter (ref08_merged_l0_step (encL a) (encL b) (encO' o)) (0, (0 : Int), (0 : Int), []) = some (a.length + b.length, encL r) := h1
  have hl : r.length = a.length + b.length := by rw [h2.length_eq]; simp
  refine ⟨r, ?_, ?_, h2, h3⟩
  · unfold ref08_merged_pre
    rw [h1']
    simp [br_if, hl]
  · unfold ref08_merged
    rw [h1']
    simp only [Option.getD_some, List.drop_zero]
    rw [List.take_of_length_le (by simp [hl])]

theorem rorder_ok (o : List Orq) (ho : o.length ≤ maxLen) : ∀ (f : Nat) (l : List Row), l.length ≤ 2 ^ f → Short l → ∃ r, ref08_Order_R (f + 1) (encL l) (encO' o) = some (encL r) ∧ r.Perm l ∧ Sorted (cmpO o) r := by
  intro f
  induction f with
  | zero =>
    intro l hl hs
    match l, hl with
    | [], _ => exact ⟨[], by simp [ref08_Order_R, ref08_Order, ref08_Order_t, br_if], List.Perm.refl _, by simp [Sorted]⟩
    | [x], _ =>
      have hx := hs.2 x (by simp)
      refine ⟨[x], ?_, List.Perm.refl _, by simp [Sorted]⟩
      have m1 : x.length * 32 ≤ 140737488355328 := by omega
      have m2 : x.length ≤ 4611686018427387904 := by omega
      show ref08_Order (ref08_Order_R 0) (encL [x]) (encO' o) = _
      simp [ref08_Order, ref08_Order_t, ref08_Order_v0, ref08_Order_v1, ref08_Order_v2, ref08_Order_v3, br_if, encL, hasSh1, encR, m1, m2, AV.toList, AV.cells]
      exact List.take_of_length_le (by simp)
  | succ f ih =>
    intro l hl hs
    by_cases h2 : l.length ≤ 1
    · match l, h2 with
      | [], _ => exact ⟨[], by show ref08_Order (ref08_Order_R (f + 1)) (encL []) (encO' o) = _; simp [ref08_Order, ref08_Order_t, br_if], List.Perm.refl _, by simp [Sorted]⟩
      | [x], _ =>
        have hx := hs.2 x (by simp)
        refine ⟨[x], ?_, List.Perm.refl _, by simp [Sorted]⟩
        have m1 : x.length * 32 ≤ 140737488355328 := by omega
        have m2 : x.length ≤ 4611686018427387904 := by omega
        show ref08_Order (ref08_Order_R (f + 1)) (encL [x]) (encO' o) = _
        simp [ref08_Order, ref08_Order_t, ref08_Order_v0, ref08_Order_v1, ref08_Order_v2, ref08_Order_v3, br_if, encL, hasSh1, encR, m1, m2, AV.toList, AV.cells]
        exact List.take_of_length_le (by simp)
    · have hp : 2 ^ (f + 1) = 2 * 2 ^ f := by rw [Nat.pow_succ]; omega
      have hs1 := hs.1
      obtain ⟨m, hm⟩ : ∃ m, m = l.length / 2 := ⟨_, rfl⟩
      have st : Short (l.take m) := ⟨by simp; omega, fun x hx => hs.2 x (List.mem_of_mem_take hx)⟩
      have sd : Short (l.drop m) := ⟨by simp; omega, fun x hx => hs.2 x (List.mem_of_mem_drop hx)⟩
      obtain ⟨r1, e1, p1, s1⟩ := ih (l.take m) (by simp; omega) st
      obtain ⟨r2, e2, p2, s2⟩ := ih (l.drop m) (by simp; omega) sd
      have l1 := p1.length_eq
      have l2 := p2.length_eq
      simp only [List.length_take, List.length_drop] at l1 l2
      obtain ⟨r, a1, a2, a3, a4⟩ := merged_ok r1 r2 o ho (by omega) (fun x hx => st.2 x (p1.mem_iff.1 hx)) (fun x hx => sd.2 x (p2.mem_iff.1 hx)) s1 s2
      refine ⟨r, ?_, a3.trans ((p1.append p2).trans (by rw [List.take_append_drop])), a4⟩
      have w : IntKind.i64.wrap ((l.length : Int).tdiv 2) = (m : Int) := by
        rw [Int.tdiv_eq_ediv_of_nonneg (by omega)]
        exact w64 (by omega) (by omega)
      have t1 : List.take m (encL l) = encL (l.take m) := by simp [encL]
      have t2 : List.take (l.length - m) (List.drop m (encL l)) = encL (l.drop m) := by
        rw [List.take_of_length_le (by simp)]; simp [encL]
      have d0 : ((l.length : Int) == 0) = false := by simp; intro h; subst h; simp at h2
      have d1 : ((l.length : Int) == 1) = false := by simp; omega
      have d2 : (m : Int) ≤ (l.length : Int) := by omega
      show ref08_Order (ref08_Order_R (f + 1)) (encL l) (encO' o) = _
      simp only [ref08_Order, ref08_Order_t, ref08_Order_v0, ref08_Order_v1, ref08_Order_v2, ref08_Order_v3, List.length_map, d0, d1, br_ff, w, Int.toNat_natCast, Nat.sub_zero, List.drop_zero, t1, t2, e1, e2, Option.isSome_some, Option.getD_some, br_tt, d2, decide_true, Int.natCast_nonneg, Bool.and_true, a1, a2]

theorem law_orders (l : List Row) (o : List Orq) (hs : Short l) (ho : o.length ≤ maxLen) : law08_TupleOrders (encL l) (encO' o) = some true := by
  obtain ⟨r, e1, p1, s1⟩ := order_ok l hs o ho
  have hro : ∀ F, 20 ≤ F → ∃ r, ref08_Order_R (F + 1) (encL l) (encO' o) = some (encL r) ∧ r.Perm l ∧ Sorted (cmpO o) r := fun F hF => rorder_ok o ho F l (pow_big hs.1 hF) hs
  obtain ⟨r', e2, p2, s2⟩ := hro 999 (by omega)
  obtain rfl : r = r' := sorted_one (cm_O o) (cmpO_zero o) (p1.trans p2.symm) s1 s2
  obtain ⟨a1, a2⟩ := list_ok r (hs.perm p1)
  unfold law08_TupleOrders law08_TupleOrders_t
  rw [e1, e2]
  simp only [Option.isSome_some, Option.getD_some, br_tt, a1, a2, br_if]
  split <;> rfl

theorem asc_loop (l0 : List AV) (i k : Int) (a : List Row) (h : Short a) (hs : Sorted cmpR a) : ∀ (m n : Nat), 1 ≤ n → (n + m = a.length ∨ (a.length < n ∧ m = 0)) → Iter (law08_TupleMultiset_l0_step l0 i k (encL a)) (n : Int) = some (false, false, ())
  | 0, n, _, hk => by
    have h0 : ¬ ((n : Int) < (a.length : Int)) := by omega
    exact iter_end (by simp only [law08_TupleMultiset_l0_step, law08_TupleMultiset_l0_t, List.length_map, br_if, h0, decide_false, Bool.false_eq_true, if_false])
  | m + 1, n, hn, hk => by
    have h1 : n < a.length := by omega
    have h1' : (n : Int) < (a.length : Int) := by omega
    have h2' : ((n - 1 : Nat) : Int) < (a.length : Int) := by omega
    have h2 : n - 1 < a.length := by omega
    have hx : a[n]? = some a[n] := by simp [h1]
    have hy : a[n - 1]? = some a[n - 1] := by simp [h2]
    have h3 := h.2 a[n - 1] (List.getElem_mem h2)
    obtain ⟨p, e⟩ := tuple_cmp a[n - 1] a[n] (by unfold maxLen; omega)
    have h4 := h.1
    have h5 : ¬ cmpR a[n - 1] a[n] > 0 := by
      have := sorted_get hs (i := n - 1) (j := n) (by omega) h1
      omega
    rw [iter_step (s' := ((n + 1 : Nat) : Int)) ?_, asc_loop l0 i k a h hs m (n + 1) (by omega) (by omega)]
    simp only [law08_TupleMultiset_l0_step, law08_TupleMultiset_l0_t, List.length_map, br_if, w64 (x := (n : Int) - 1) (n := n - 1) (by omega) (by omega), h1', h1, h2, h2', decide_true, Int.toNat_natCast, gR hx, gR hy, cells_encR, List.getD_cons_zero, sh_encR, toList_encR, p, e, h5, decide_false, Int.natCast_nonneg, Bool.and_true, if_true, Bool.false_eq_true, if_false, wrap_nat (show n + 1 ≤ maxLen by unfold maxLen; omega)]

theorem law_multiset (l : List Row) (o : List Orq) (i k : Int) (hs : Short l) (ho : o.length ≤ maxLen) : law08_TupleMultiset (encL l) (encO' o) i k = some true := by
  obtain ⟨a, e1, p1, s1⟩ := sort_ok l hs
  obtain ⟨r, e2, p2, s2⟩ := order_ok l hs o ho
  have e3 := same_ok a l hs p1
  have e4 := same_ok r l hs p2
  have ha := hs.perm p1
  have e5 : Iter (law08_TupleMultiset_l0_step (encL l) i k (encL a)) 1 = some (false, false, ()) := by
    by_cases h : a.length = 0
    · exact asc_loop (encL l) i k a ha s1 0 1 (by omega) (by omega)
    · exact asc_loop (encL l) i k a ha s1 (a.length - 1) 1 (by omega) (by omega)
  have hl := p1.length_eq
  have hs1 := hs.1
  have d0 : ((a.length : Int) != (l.length : Int)) = false := by simp [hl]
  unfold law08_TupleMultiset law08_TupleMultiset_t
  simp only [law08_TupleMultiset_v0, law08_TupleMultiset_v1, law08_TupleMultiset_v2, law08_TupleMultiset_v3, e1, e2, e3, e4, e5, Option.isSome_some, Option.getD_some, br_tt, br_ff, List.length_map, d0, Bool.not_true]
  by_cases h1 : i < 0
  · simp only [h1, decide_true, br_tt]
  · by_cases h2 : i ≥ (l.length : Int)
    · simp only [h1, h2, decide_true, decide_false, br_tt, br_ff]
    · by_cases h3 : k < 0
      · simp only [h1, h2, h3, decide_true, decide_false, br_tt, br_ff]
      · by_cases h4 : k ≥ (l.length : Int)
        · simp only [h1, h2, h3, h4, decide_true, decide_false, br_tt, br_ff]
        · obtain ⟨i, rfl⟩ := Int.eq_ofNat_of_zero_le (show 0 ≤ i by omega)
          obtain ⟨k, rfl⟩ := Int.eq_ofNat_of_zero_le (show 0 ≤ k by omega)
          have hi : i < l.length := by omega
          have hk : k < l.length := by omega
          have i1 : (i : Int) < (l.length : Int) := by omega
          have k1 : (k : Int) < (l.length : Int) := by omega
          have hx : l[i]? = some l[i] := by simp [hi]
          have hy : l[k]? = some l[k] := by simp [hk]
          have pm : ((l.set i l[k]).set k l[i]).Perm l := List.set_set_perm hi hk
          obtain ⟨r', e6, p6, s6⟩ := sort_ok _ (hs.perm pm)
          obtain rfl : r' = a := sorted_one cm_R (fun _ _ => cmpR_zero) (p6.trans (pm.trans p1.symm)) s6 s1
          obtain ⟨a1, a2⟩ := list_ok r' ha
          have m1 : l.length * 24 ≤ 140737488355328 := by omega
          have m2 : l.length ≤ 4611686018427387904 := by omega
          have t1 : List.take l.length (encL ((l.set i l[k]).set k l[i])) = encL ((l.set i l[k]).set k l[i]) := List.take_of_length_le (by simp)
          simp only [h1, h2, h3, h4, decide_false, br_ff, Nat.zero_add, List.nil_append, Int.toNat_natCast, gR hx, gR hy, cells_encR, List.getD_cons_zero, sh_encR, toList_encR, setR, m1, m2, i1, k1, hi, hk, List.length_map, List.length_set, decide_true, Bool.and_true, br_tt, Int.natCast_nonneg, Nat.le_refl, List.drop_zero, t1, e6, Option.isSome_some, Option.getD_some, a1, a2]

/-! ### Out of weights -/
theorem wts_len {α : Type} (e : α → AV) (h : ∀ a, 1 ≤ (e a).wt) : ∀ l : List α, l.length ≤ AV.wts (l.map e)
  | [] => by simp [AV.wts]
  | a :: l => by
    have := wts_len e h l
    have := h a
    simp only [List.map_cons, AV.wts, List.length_cons]; omega
theorem wts_mem {α : Type} (e : α → AV) : ∀ {l : List α} {x : α}, x ∈ l → (e x).wt ≤ AV.wts (l.map e)
  | [], x, h => by simp at h
  | a :: l, x, h => by
    simp only [List.map_cons, AV.wts]
    rcases List.mem_cons.1 h with rfl | h
    · omega
    · have := wts_mem e h; omega
theorem short_of (l : List Row) (h : (AV.list 1 (encL l)).wt ≤ 1048576) : Short l := by
  simp only [AV.wt, encL] at h
  have hr : ∀ r : Row, r.length + 1 ≤ (encR r).wt := fun r => by
    have := wts_len encV (fun v => by simp [encV, AV.wt, AV.wts]) r
    simp only [encR, AV.wt]; omega
  refine ⟨?_, fun x hx => ?_⟩
  · have := wts_len encR (fun r => by have := hr r; omega) l
    omega
  · have := wts_mem encR hx
    have := hr x
    omega

theorem card_orders (l : List Row) (o : List Orq) (w0 : l.length ≤ maxLen ∧ ∀ r, r ∈ l → r.wf) (w1 : o.length ≤ maxLen) (hb : (AV.list 1 (encL l)).wt + (AV.list 2 (encO' o)).wt ≤ 1048576) : law08_TupleOrders (encL l) (encO' o) = some true :=
  law_orders l o (short_of l (by omega)) w1

theorem card_multiset (l : List Row) (o : List Orq) (i k : Int) (w0 : l.length ≤ maxLen ∧ ∀ r, r ∈ l → r.wf) (w1 : o.length ≤ maxLen) (w2 : (Lit.int .i64 i).wf = true) (w3 : (Lit.int .i64 k).wf = true)
    (hb : (AV.list 1 (encL l)).wt + (AV.list 2 (encO' o)).wt + (AV.int .i64 i).wt + (AV.int .i64 k).wt ≤ 1048576) : law08_TupleMultiset (encL l) (encO' o) i k = some true :=
  law_multiset l o i k (short_of l (by omega)) w1

end Go.Sim.M
