/- Each abstract operation says what the model's operation does: literals, slices, indexes, new boxes; and all of them together. -/
import Derived.Test.YtkoepgogaojgmaaDoorSimC
set_option linter.unusedVariables false
set_option linter.unusedSimpArgs false
set_option linter.unnecessarySimpa false
namespace Go.Sim
open Go.RowKit

/-- What 'fill' does with one part. -/
def setAll (c : Array Value) (off : Nat) (vs : Array Value) : Array Value := vs.zipIdx.foldl (fun cs (x, j) => cs.setIfInBounds (off + j) x) c

theorem setAll_list (off : Nat) : ∀ (l : List Value) (k : Nat) (c : Array Value), off + k + l.length ≤ c.size →
    ((l.zipIdx k).foldl (fun cs (x, j) => cs.setIfInBounds (off + j) x) c).toList = c.toList.take (off + k) ++ l ++ c.toList.drop (off + k + l.length)
  | [], k, c, _ => by simp
  | v :: l, k, c, h => by
    have h' : off + (k + 1) + l.length ≤ (c.setIfInBounds (off + k) v).size := by simp at h ⊢; omega
    have ih := setAll_list off l (k + 1) (c.setIfInBounds (off + k) v) h'
    simp only [List.zipIdx_cons, List.foldl_cons, ih, Array.toList_setIfInBounds]
    have hlt : off + k < c.toList.length := by simp at h ⊢; omega
    apply List.ext_getElem?
    intro i
    simp only [List.length_cons, Nat.add_assoc, Nat.add_comm 1]
    by_cases h1 : i < off + k
    · simp [List.getElem?_append, List.getElem?_take, List.length_take, List.length_set, h1, show i < off + (k + 1) by omega]
      have e1 : i < min (off + k) c.size := by simp at hlt; omega
      have e2 : i < min (off + (k + 1)) c.size := by simp at hlt; omega
      simp [e1, e2, List.getElem?_set, show ¬ off + k = i by omega]
    · by_cases h2 : i = off + k
      · subst h2
        simp at hlt
        simp [List.getElem?_append, List.getElem?_take, List.length_take, List.length_set, hlt, show off + k < off + (k + 1) by omega, show min (off + (k + 1)) c.size = off + (k + 1) by omega, show min (off + k) c.size = off + k by omega]
      · simp at hlt
        have e1 : min (off + (k + 1)) c.size = off + (k + 1) := by omega
        have e2 : min (off + k) c.size = off + k := by omega
        simp only [List.append_assoc, List.getElem?_append, List.length_take, List.length_set, Array.length_toList, e1, e2, List.length_cons, show ¬ i < off + k from h1, show ¬ i < off + (k + 1) by omega, if_false, List.getElem?_drop, List.getElem?_set]
        by_cases h3 : i - (off + (k + 1)) < l.length
        · have e3 : i - (off + k) = (i - (off + (k + 1))) + 1 := by omega
          simp [h3, e3]
        · have e3 : ¬ (i - (off + k) < l.length + 1) := by omega
          simp only [h3, e3, if_false]
          have e4 : off + (k + (l.length + 1)) + (i - (off + k) - (l.length + 1)) = off + (k + (l.length + 1)) + (i - (off + (k + 1)) - l.length) := by omega
          rw [e4]
          simp [show ¬ off + k = off + (k + (l.length + 1)) + (i - (off + (k + 1)) - l.length) by omega]

theorem setAll_toList {c : Array Value} {off : Nat} {vs : Array Value} (h : off + vs.size ≤ c.size) :
    (setAll c off vs).toList = c.toList.take off ++ vs.toList ++ c.toList.drop (off + vs.size) := by
  have := setAll_list off vs.toList 0 c (by simpa using h)
  have e : setAll c off vs = (vs.toList.zipIdx 0).foldl (fun cs (x, j) => cs.setIfInBounds (off + j) x) c := by
    unfold setAll
    rw [← Array.foldl_toList, Array.toList_zipIdx]
  rw [e, this]
  simp

section
variable {P : Program} {w : World} {A : Nat → Prop} {M : Nat → Option MB} {B : Nat} {H : List Box}

/-- Cells, one by one. -/
def RC (w : World) (A : Nat → Prop) (M : Nat → Option MB) (c : List Value) (cs : List AV) : Prop := c.length = cs.length ∧ ∀ i, i < cs.length → Rel w A M (c.getD i undef) (cs.getD i .top)

theorem RC.append {c c' : List Value} {cs cs' : List AV} (h : RC w A M c cs) (h' : RC w A M c' cs') : RC w A M (c ++ c') (cs ++ cs') := by
  refine ⟨by simp [h.1, h'.1], fun i hi => ?_⟩
  simp only [List.getD_eq_getElem?_getD, List.getElem?_append, h.1]
  by_cases h1 : i < cs.length
  · simp only [h1, if_true]; have := h.2 i h1; simpa [List.getD_eq_getElem?_getD] using this
  · simp only [h1, if_false]; have := h'.2 (i - cs.length) (by simp at hi; omega); simpa [List.getD_eq_getElem?_getD] using this

theorem RC.take {c : List Value} {cs : List AV} (h : RC w A M c cs) (n : Nat) : RC w A M (c.take n) (cs.take n) := by
  refine ⟨by simp [h.1], fun i hi => ?_⟩
  have hi1 : i < n ∧ i < cs.length := by simp at hi; omega
  have := h.2 i hi1.2
  simpa [List.getD_eq_getElem?_getD, List.getElem?_take, hi1.1] using this

theorem RC.drop {c : List Value} {cs : List AV} (h : RC w A M c cs) (n : Nat) : RC w A M (c.drop n) (cs.drop n) := by
  refine ⟨by simp [h.1], fun i hi => ?_⟩
  simp at hi
  have := h.2 (n + i) (by omega)
  simpa [List.getD_eq_getElem?_getD, List.getElem?_drop] using this

theorem rc_cells {v : Value} {x : AV} (h : Rel w A M v x) (hx : x.cells.all AV.one = true) : RC w A M v.cells.toList x.cells := by
  obtain ⟨h1, h2⟩ := h.cells hx
  refine ⟨by simpa using h1, fun i hi => ?_⟩
  have := h2 i hi
  simpa [List.getD_eq_getElem?_getD, Array.getD_eq_getD_getElem?] using this

theorem absFill_sound (place : Nat → Option (Nat × Nat)) : ∀ (pa : List (Nat × AV)) (pc : List (Nat × Value)) (cs cs' : List AV) (c : Array Value), RC w A M c.toList cs →
    pc.length = pa.length → (∀ i, i < pa.length → (pc.getD i (0, undef)).1 = (pa.getD i (0, .top)).1 ∧ Rel w A M (pc.getD i (0, undef)).2 (pa.getD i (0, .top)).2) →
    absFill place cs pa = some cs' → ∃ c', Instr.fill place c pc = some c' ∧ RC w A M c'.toList cs'
  | [], pc, cs, cs', c, hc, hl, hp, h => by
    simp only [absFill, Option.some.injEq] at h; subst h
    have : pc = [] := by simpa using hl
    subst this
    exact ⟨c, rfl, hc⟩
  | (i, v) :: rest, pc, cs, cs', c, hc, hl, hp, h => by
    cases pc with
    | nil => simp at hl
    | cons q pc =>
      obtain ⟨i', u⟩ := q
      have h0 := hp 0 (by simp)
      simp only [List.getD_cons_zero] at h0
      obtain ⟨rfl, hu⟩ := h0
      unfold absFill at h
      split at h
      · simp at h
      rename_i off size hpl
      split at h
      case isFalse => simp at h
      rename_i hok
      obtain ⟨hok, hle⟩ := hok
      have hvl := okElem_len hok
      have hone := okElem_one hok
      have hcu := rc_cells hu hone
      have hsz : u.cells.size = size := by have := hcu.1; simp at this; omega
      have hcl : c.size = cs.length := by have := hc.1; simpa using this
      have htl := setAll_toList (c := c) (off := off) (vs := u.cells) (by omega)
      have hnew : RC w A M (setAll c off u.cells).toList (cs.take off ++ v.cells ++ cs.drop (off + size)) := by
        rw [htl, hsz]
        exact ((hc.take off).append hcu).append (hc.drop (off + size))
      obtain ⟨c', h1, h2⟩ := absFill_sound place rest pc _ cs' (setAll c off u.cells) hnew (by simpa using hl) (fun k hk => by have := hp (k + 1) (by simp; omega); simpa using this) h
      refine ⟨c', ?_, h2⟩
      rw [← h1]
      simp only [Instr.fill, hpl]
      have hno : ((u.cells.size ≠ size || off + u.cells.size > c.size) : Bool) = false := by simp [hsz]; omega
      have hno' : ¬ ((decide (u.cells.size ≠ size) || decide (off + u.cells.size > c.size)) = true) := by simpa using hno
      rw [if_neg hno']
      rfl

/-- Elements, cell by cell. -/
def RE (w : World) (A : Nat → Prop) (M : Nat → Option MB) (sz : Nat) (c : List Value) (xs : List AV) : Prop :=
  xs.length * sz ≤ c.length ∧ ∀ i j, i < xs.length → j < sz → Rel w A M (c.getD (i * sz + j) undef) ((xs.getD i .top).cells.getD j .top)

theorem idx_lt {i j n sz : Nat} (hi : i < n) (hj : j < sz) : i * sz + j < n * sz := by
  have : (i + 1) * sz ≤ n * sz := Nat.mul_le_mul_right _ hi
  rw [Nat.add_mul, Nat.one_mul] at this
  omega

theorem idx_inj {i i' j j' sz : Nat} (hj : j < sz) (hj' : j' < sz) (h : i * sz + j = i' * sz + j') : i = i' ∧ j = j' := by
  have e1 : (i * sz + j) / sz = i := by rw [Nat.mul_comm, Nat.mul_add_div (by omega), Nat.div_eq_of_lt hj]; omega
  have e2 : (i' * sz + j') / sz = i' := by rw [Nat.mul_comm, Nat.mul_add_div (by omega), Nat.div_eq_of_lt hj']; omega
  have : i = i' := by rw [← e1, h, e2]
  subst this
  exact ⟨rfl, by omega⟩

/-- One element is laid anew. -/
theorem RE.set {sz : Nat} {c : List Value} {xs : List AV} (h : RE w A M sz c xs) {i : Nat} (hi : i < xs.length) {vs : List Value} {x : AV} (hl : vs.length = sz) (hx : x.cells.length = sz) (hv : RC w A M vs x.cells) :
    RE w A M sz (c.take (i * sz) ++ vs ++ c.drop (i * sz + sz)) (xs.set i x) := by
  have hle : i * sz + sz ≤ c.length := by
    have : (i + 1) * sz ≤ xs.length * sz := Nat.mul_le_mul_right _ hi
    rw [Nat.add_mul, Nat.one_mul] at this
    have := h.1
    omega
  refine ⟨by simp [hl]; have := h.1; omega, fun i' j hi' hj => ?_⟩
  simp at hi'
  by_cases he : i' = i
  · subst he
    have e1 : (c.take (i' * sz) ++ vs ++ c.drop (i' * sz + sz)).getD (i' * sz + j) undef = vs.getD j undef := by
      have h1 : min (i' * sz) c.length = i' * sz := by omega
      simp only [List.append_assoc, List.getD_eq_getElem?_getD, List.getElem?_append, List.length_take, h1, show ¬ i' * sz + j < i' * sz by omega, if_false, show i' * sz + j - i' * sz = j by omega, hl, hj, if_true]
    have e2 : (xs.set i' x).getD i' .top = x := by simp [List.getD_eq_getElem?_getD, hi']
    rw [e1, e2]
    exact hv.2 j (by omega)
  · have e2 : (xs.set i x).getD i' .top = xs.getD i' .top := by simp [List.getD_eq_getElem?_getD, List.getElem?_set, show ¬ i = i' from fun h => he h.symm]
    rw [e2]
    have hold := h.2 i' j hi' hj
    have e1 : (c.take (i * sz) ++ vs ++ c.drop (i * sz + sz)).getD (i' * sz + j) undef = c.getD (i' * sz + j) undef := by
      have h1 : min (i * sz) c.length = i * sz := by omega
      simp only [List.append_assoc, List.getD_eq_getElem?_getD, List.getElem?_append, List.length_take, h1]
      rcases Nat.lt_or_ge i' i with hlt | hge
      · have : i' * sz + j < i * sz := idx_lt hlt hj
        simp [this, List.getElem?_take]
      · have hgt : i < i' := by omega
        have h3 : (i + 1) * sz ≤ i' * sz := Nat.mul_le_mul_right _ hgt
        rw [Nat.add_mul, Nat.one_mul] at h3
        simp only [show ¬ i' * sz + j < i * sz by omega, if_false, hl, show ¬ (i' * sz + j - i * sz < sz) by omega, List.getElem?_drop]
        congr 2
        omega
    rw [e1]; exact hold

theorem absSet_sound (sz : Nat) : ∀ (pa : List (Nat × AV)) (pc : List (Nat × Value)) (xs xs' : List AV) (c : Array Value), RE w A M sz c.toList xs → c.size = xs.length * sz →
    (∀ x, x ∈ xs → x.okElem sz = true) →
    pc.length = pa.length → (∀ i, i < pa.length → (pc.getD i (0, undef)).1 = (pa.getD i (0, .top)).1 ∧ Rel w A M (pc.getD i (0, undef)).2 (pa.getD i (0, .top)).2) →
    absSet sz xs pa = some xs' → ∃ c', Instr.fill (fun i => some (i * sz, sz)) c pc = some c' ∧ RE w A M sz c'.toList xs' ∧ c'.size = xs'.length * sz ∧ xs'.length = xs.length ∧ ∀ x, x ∈ xs' → x.okElem sz = true
  | [], pc, xs, xs', c, hc, hcs, hoks, hl, hp, h => by
    simp only [absSet, Option.some.injEq] at h; subst h
    have : pc = [] := by simpa using hl
    subst this
    exact ⟨c, rfl, hc, hcs, rfl, hoks⟩
  | (i, v) :: rest, pc, xs, xs', c, hc, hcs, hoks, hl, hp, h => by
    cases pc with
    | nil => simp at hl
    | cons q pc =>
      obtain ⟨i', u⟩ := q
      have h0 := hp 0 (by simp)
      simp only [List.getD_cons_zero] at h0
      obtain ⟨rfl, hu⟩ := h0
      unfold absSet at h
      split at h
      case isFalse => simp at h
      rename_i hok
      obtain ⟨hi, hok⟩ := hok
      have hvl := okElem_len hok
      have hone := okElem_one hok
      have hcu := rc_cells hu hone
      have hsz : u.cells.size = sz := by have := hcu.1; simp at this; omega
      have hle : i' * sz + sz ≤ c.size := by
        have : (i' + 1) * sz ≤ xs.length * sz := Nat.mul_le_mul_right _ hi
        rw [Nat.add_mul, Nat.one_mul] at this
        omega
      have htl := setAll_toList (c := c) (off := i' * sz) (vs := u.cells) (by omega)
      have hnew : RE w A M sz (setAll c (i' * sz) u.cells).toList (xs.set i' v) := by
        rw [htl, hsz]
        exact hc.set hi (by simpa using hsz) hvl hcu
      have hsz' : (setAll c (i' * sz) u.cells).size = (xs.set i' v).length * sz := by
        have : (setAll c (i' * sz) u.cells).toList.length = c.size := by rw [htl]; simp; omega
        simp at this ⊢
        omega
      obtain ⟨c', h1, h2, h3, h4, h5⟩ := absSet_sound sz rest pc _ xs' (setAll c (i' * sz) u.cells) hnew hsz' (fun x hx => by rcases List.mem_or_eq_of_mem_set hx with hx | hx; exact hoks x hx; exact hx ▸ hok) (by simpa using hl) (fun k hk => by have := hp (k + 1) (by simp; omega); simpa using this) h
      refine ⟨c', ?_, h2, h3, by simpa using h4, h5⟩
      rw [← h1]
      simp only [Instr.fill]
      have hno' : ¬ ((decide (u.cells.size ≠ sz) || decide (i' * sz + u.cells.size > c.size)) = true) := by simp [hsz]; omega
      rw [if_neg hno']
      rfl

end
end Go.Sim
