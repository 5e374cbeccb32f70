/- Spans as plain lists: what a sorted list of periods stands for, that it is the only one of its kind, and how a sweep over edges builds it. No program in sight. -/
import Derived.Test.YtpnibjljhfgjaaaDoorSimT
set_option linter.unusedVariables false
set_option linter.unusedSimpArgs false
namespace Go.Sim.M

/-- A loop by an invariant and a measure. -/
theorem iter_inv {σ ρ : Type} {step : σ → Option (σ ⊕ ρ)} (I : σ → Prop) (μ : σ → Nat) (Q : ρ → Prop)
    (h : ∀ s, I s → (∃ s', step s = some (.inl s') ∧ I s' ∧ μ s' < μ s) ∨ ∃ r, step s = some (.inr r) ∧ Q r) : ∀ s, I s → ∃ r, Iter step s = some r ∧ Q r := by
  intro s
  induction hn : μ s using Nat.strongRecOn generalizing s with
  | ind n ih =>
    intro hs
    rcases h s hs with ⟨s', h1, h2, h3⟩ | ⟨r, h1, h2⟩
    · obtain ⟨r, k1, k2⟩ := ih (μ s') (by omega) s' rfl h2
      exact ⟨r, by rw [iter_step h1]; exact k1, k2⟩
    · exact ⟨r, iter_end h1, h2⟩

abbrev Per : Type := Int × Int
def pv (p : Per) : Bool := decide (0 ≤ p.1) && (decide (p.1 < p.2) && decide (p.2 ≤ 1099511627776))
def hasP (p : Per) (t : Int) : Bool := pv p && (decide (p.1 ≤ t) && decide (t < p.2))
def inL (l : List Per) (t : Int) : Bool := l.any (hasP · t)

theorem pv_iff {p : Per} : pv p = true ↔ 0 ≤ p.1 ∧ p.1 < p.2 ∧ p.2 ≤ 1099511627776 := by simp [pv]
theorem hasP_iff {p : Per} {t : Int} : hasP p t = true ↔ pv p = true ∧ p.1 ≤ t ∧ t < p.2 := by simp [hasP]
theorem inL_iff {l : List Per} {t : Int} : inL l t = true ↔ ∃ p, p ∈ l ∧ pv p = true ∧ p.1 ≤ t ∧ t < p.2 := by
  unfold inL
  rw [List.any_eq_true]
  constructor
  · rintro ⟨p, h1, h2⟩; exact ⟨p, h1, hasP_iff.1 h2⟩
  · rintro ⟨p, h1, h2⟩; exact ⟨p, h1, hasP_iff.2 h2⟩
theorem inL_rng {l : List Per} {t : Int} (h : inL l t = true) : 0 ≤ t ∧ t < 1099511627776 := by
  obtain ⟨p, _, h2, h3, h4⟩ := inL_iff.1 h
  have := pv_iff.1 h2
  omega
theorem inL_cons (p : Per) (l : List Per) (t : Int) : inL (p :: l) t = (hasP p t || inL l t) := rfl
theorem inL_append (a b : List Per) (t : Int) : inL (a ++ b) t = (inL a t || inL b t) := by simp [inL]
theorem inL_nil (t : Int) : inL [] t = false := rfl

def IsSpan (l : List Per) : Prop := (∀ p, p ∈ l → pv p = true) ∧ l.Pairwise fun p q => p.2 < q.1

theorem isSpan_nil : IsSpan [] := ⟨fun p h => (by cases h), List.Pairwise.nil⟩

theorem span_first {p q : Per} {l m : List Per} (hp : pv p = true) (hm : IsSpan (q :: m)) (h : ∀ t, inL (p :: l) t = inL (q :: m) t) : q.1 ≤ p.1 := by
  have h0 := pv_iff.1 hp
  have h1 : inL (p :: l) p.1 = true := inL_iff.2 ⟨p, List.mem_cons_self .., hp, Int.le_refl _, h0.2.1⟩
  rw [h] at h1
  obtain ⟨r, hr, _, h2, _⟩ := inL_iff.1 h1
  rcases List.mem_cons.1 hr with rfl | hr
  · exact h2
  · have := (List.pairwise_cons.1 hm.2).1 r hr
    have := pv_iff.1 (hm.1 q (List.mem_cons_self ..))
    omega

theorem span_second {p q : Per} {l m : List Per} (hl : IsSpan (p :: l)) (hq : pv q = true) (he : p.1 = q.1) (h : ∀ t, inL (p :: l) t = inL (q :: m) t) : q.2 ≤ p.2 := by
  rcases Int.lt_or_le p.2 q.2 with hlt | hle
  · have h0 := pv_iff.1 (hl.1 p (List.mem_cons_self ..))
    have h1 : inL (q :: m) p.2 = true := inL_iff.2 ⟨q, List.mem_cons_self .., hq, by omega, hlt⟩
    rw [← h] at h1
    obtain ⟨r, hr, _, h2, h3⟩ := inL_iff.1 h1
    rcases List.mem_cons.1 hr with rfl | hr
    · omega
    · have := (List.pairwise_cons.1 hl.2).1 r hr
      omega
  · exact hle

theorem span_tail {p : Per} {l : List Per} (hl : IsSpan (p :: l)) {t : Int} (h : hasP p t = true) : inL l t = false := by
  cases hc : inL l t with
  | false => rfl
  | true =>
    obtain ⟨r, hr, _, h2, _⟩ := inL_iff.1 hc
    have := (List.pairwise_cons.1 hl.2).1 r hr
    have := (hasP_iff.1 h).2
    omega

/-- A span is known by its instants. -/
theorem span_unique : ∀ {l m : List Per}, IsSpan l → IsSpan m → (∀ t, inL l t = inL m t) → l = m
  | [], [], _, _, _ => rfl
  | [], q :: m, _, hm, h => by
    have hq := hm.1 q (List.mem_cons_self ..)
    have : inL (q :: m) q.1 = true := inL_iff.2 ⟨q, List.mem_cons_self .., hq, Int.le_refl _, (pv_iff.1 hq).2.1⟩
    rw [← h] at this; cases this
  | p :: l, [], hl, _, h => by
    have hp := hl.1 p (List.mem_cons_self ..)
    have : inL (p :: l) p.1 = true := inL_iff.2 ⟨p, List.mem_cons_self .., hp, Int.le_refl _, (pv_iff.1 hp).2.1⟩
    rw [h] at this; cases this
  | p :: l, q :: m, hl, hm, h => by
    have hp := hl.1 p (List.mem_cons_self ..)
    have hq := hm.1 q (List.mem_cons_self ..)
    have e1 : p.1 = q.1 := Int.le_antisymm (span_first hq hl fun t => (h t).symm) (span_first hp hm h)
    have e2 : p.2 = q.2 := Int.le_antisymm (span_second hm hp e1.symm fun t => (h t).symm) (span_second hl hq e1 h)
    have e : p = q := Prod.ext e1 e2
    subst e
    have hl' : IsSpan l := ⟨fun r hr => hl.1 r (List.mem_cons_of_mem _ hr), (List.pairwise_cons.1 hl.2).2⟩
    have hm' : IsSpan m := ⟨fun r hr => hm.1 r (List.mem_cons_of_mem _ hr), (List.pairwise_cons.1 hm.2).2⟩
    rw [span_unique hl' hm' fun t => ?_]
    cases hc : hasP p t with
    | true => rw [span_tail hl hc, span_tail hm hc]
    | false => have := h t; rwa [inL_cons, inL_cons, hc, Bool.false_or, Bool.false_or] at this

/-! ### What a sweep has built -/
/-- Up to an instant: a span of the wanted instants. -/
structure OutOk (out : List Per) (at' : Int) (K : Int → Bool) : Prop where
  span : IsSpan out
  low : ∀ p, p ∈ out → p.2 ≤ at'
  val : ∀ t, 0 ≤ t → t < at' → inL out t = K t

theorem outOk_nil (K : Int → Bool) : OutOk [] 0 K := ⟨isSpan_nil, fun p h => (by cases h), fun t h1 h2 => by omega⟩

theorem OutOk.past {out : List Per} {at' : Int} {K : Int → Bool} (h : OutOk out at' K) {t : Int} (ht : at' ≤ t) : inL out t = false := by
  cases hc : inL out t with
  | false => rfl
  | true =>
    obtain ⟨p, hp, _, h2, h3⟩ := inL_iff.1 hc
    have := h.low p hp
    omega

theorem OutOk.skip {out : List Per} {at' nx : Int} {K : Int → Bool} (h : OutOk out at' K) (hle : at' ≤ nx) (hK : ∀ t, at' ≤ t → t < nx → K t = false) : OutOk out nx K :=
  ⟨h.span, fun p hp => by have := h.low p hp; omega, fun t h1 h2 => by
    rcases Int.lt_or_le t at' with hlt | hge
    · exact h.val t h1 hlt
    · rw [h.past hge, hK t hge h2]⟩

theorem OutOk.add {out : List Per} {at' nx : Int} {K : Int → Bool} (h : OutOk out at' K) (h0 : 0 ≤ at') (hlt : at' < nx) (hF : nx ≤ 1099511627776) (hK : ∀ t, at' ≤ t → t < nx → K t = true) (hne : ∀ p, p ∈ out → p.2 ≠ at') : OutOk (out ++ [(at', nx)]) nx K := by
  have hp : pv (at', nx) = true := pv_iff.2 ⟨h0, hlt, hF⟩
  refine ⟨⟨fun p hm => ?_, ?_⟩, fun p hm => ?_, fun t h1 h2 => ?_⟩
  · rcases List.mem_append.1 hm with hm | hm
    · exact h.span.1 p hm
    · rw [List.mem_singleton.1 hm]; exact hp
  · refine List.pairwise_append.2 ⟨h.span.2, List.pairwise_singleton .., fun p hm q hq => ?_⟩
    rw [List.mem_singleton.1 hq]
    have := h.low p hm
    have := hne p hm
    show p.2 < at'
    omega
  · rcases List.mem_append.1 hm with hm | hm
    · have := h.low p hm; omega
    · rw [List.mem_singleton.1 hm]; exact Int.le_refl _
  · rw [inL_append, inL_cons, inL_nil, Bool.or_false]
    rcases Int.lt_or_le t at' with hl | hg
    · rw [h.val t h1 hl]
      have : hasP (at', nx) t = false := by
        cases hc : hasP (at', nx) t with
        | false => rfl
        | true => have := (hasP_iff.1 hc).2.1; simp only at this; omega
      rw [this, Bool.or_false]
    · rw [h.past hg, hK t hg h2, Bool.false_or]
      exact hasP_iff.2 ⟨hp, hg, h2⟩

theorem OutOk.ext {o : List Per} {p : Per} {at' nx : Int} {K : Int → Bool} (h : OutOk (o ++ [p]) at' K) (he : p.2 = at') (hlt : at' < nx) (hF : nx ≤ 1099511627776) (hK : ∀ t, at' ≤ t → t < nx → K t = true) : OutOk (o ++ [(p.1, nx)]) nx K := by
  have hpv := pv_iff.1 (h.span.1 p (List.mem_append_right _ (List.mem_singleton.2 rfl)))
  have hp : pv (p.1, nx) = true := pv_iff.2 ⟨hpv.1, by show p.1 < nx; omega, hF⟩
  obtain ⟨hw1, _, hw2⟩ := List.pairwise_append.1 h.span.2
  refine ⟨⟨fun q hm => ?_, ?_⟩, fun q hm => ?_, fun t h1 h2 => ?_⟩
  · rcases List.mem_append.1 hm with hm | hm
    · exact h.span.1 q (List.mem_append_left _ hm)
    · rw [List.mem_singleton.1 hm]; exact hp
  · refine List.pairwise_append.2 ⟨hw1, List.pairwise_singleton .., fun q hm r hr => ?_⟩
    rw [List.mem_singleton.1 hr]
    exact hw2 q hm p (List.mem_singleton.2 rfl)
  · rcases List.mem_append.1 hm with hm | hm
    · have := hw2 q hm p (List.mem_singleton.2 rfl); omega
    · rw [List.mem_singleton.1 hm]; exact Int.le_refl _
  · rcases Int.lt_or_le t at' with hl | hg
    · rw [← h.val t h1 hl, inL_append, inL_append, inL_cons, inL_cons, inL_nil]
      have : hasP (p.1, nx) t = hasP p t := by
        have hpp := h.span.1 p (List.mem_append_right _ (List.mem_singleton.2 rfl))
        unfold hasP
        rw [hp, hpp]
        have e1 : decide (t < nx) = true := decide_eq_true (by omega)
        have e2 : decide (t < p.2) = true := decide_eq_true (by omega)
        simp only [e1, e2]
      rw [this]
    · rw [hK t hg h2, inL_append, inL_cons]
      have : hasP (p.1, nx) t = true := hasP_iff.2 ⟨hp, by show p.1 ≤ t; omega, h2⟩
      rw [this]; simp

/-- A sweep's end. -/
theorem OutOk.done {out : List Per} {K : Int → Bool} (h : OutOk out 1099511627776 K) (t : Int) : inL out t = (decide (0 ≤ t) && (decide (t < 1099511627776) && K t)) := by
  by_cases h1 : 0 ≤ t
  · by_cases h2 : t < 1099511627776
    · rw [h.val t h1 h2]; simp [h1, h2]
    · rw [h.past (by omega)]; simp [h2]
  · have : inL out t = false := by
      cases hc : inL out t with
      | false => rfl
      | true => have := inL_rng hc; omega
    rw [this]; simp [h1]

/-! ### Edges -/
abbrev Edg : Type := Int × Int × Int
def edgesOf (x y : Int) : List Per → List Edg
  | [] => []
  | p :: l => if pv p = true then (p.1, x, y) :: (p.2, -x, -y) :: edgesOf x y l else edgesOf x y l
def sumBy (g : Edg → Int) (t : Int) : List Edg → Int
  | [] => 0
  | e :: l => (if e.1 ≤ t then g e else 0) + sumBy g t l
def sumAll (g : Edg → Int) : List Edg → Int
  | [] => 0
  | e :: l => g e + sumAll g l
theorem sumAll_append (g : Edg → Int) : ∀ a b, sumAll g (a ++ b) = sumAll g a + sumAll g b
  | [], b => by simp [sumAll]
  | e :: a, b => by simp only [List.cons_append, sumAll, sumAll_append g a b]; omega
theorem sumBy_append (g : Edg → Int) (t : Int) : ∀ a b, sumBy g t (a ++ b) = sumBy g t a + sumBy g t b
  | [], b => by simp [sumBy]
  | e :: a, b => by simp only [List.cons_append, sumBy, sumBy_append g t a b]; omega
theorem sumBy_perm (g : Edg → Int) (t : Int) {a b : List Edg} (h : a.Perm b) : sumBy g t a = sumBy g t b := by
  induction h with
  | nil => rfl
  | cons x _ ih => simp only [sumBy, ih]
  | swap x y l => simp only [sumBy]; omega
  | trans _ _ h1 h2 => exact h1.trans h2
theorem sumBy_all (g : Edg → Int) (t : Int) : ∀ l : List Edg, (∀ e, e ∈ l → e.1 ≤ t) → sumBy g t l = sumAll g l
  | [], _ => rfl
  | e :: l, h => by
    simp only [sumBy, sumAll, if_pos (h e (List.mem_cons_self ..)), sumBy_all g t l fun x hx => h x (List.mem_cons_of_mem _ hx)]
theorem sumBy_none (g : Edg → Int) (t : Int) : ∀ l : List Edg, (∀ e, e ∈ l → t < e.1) → sumBy g t l = 0
  | [], _ => rfl
  | e :: l, h => by
    have := h e (List.mem_cons_self ..)
    simp only [sumBy, if_neg (by omega : ¬ e.1 ≤ t), sumBy_none g t l fun x hx => h x (List.mem_cons_of_mem _ hx)]; rfl
/-- How many periods hold an instant. -/
def cntP (l : List Per) (t : Int) : Int := ((l.filter (hasP · t)).length : Nat)
theorem cntP_pos (l : List Per) (t : Int) : decide (cntP l t > 0) = inL l t := by
  unfold cntP
  have h2 : (l.filter (hasP · t)).length = 0 ↔ inL l t = false := by
    rw [List.length_eq_zero_iff, List.filter_eq_nil_iff]
    unfold inL
    rw [List.any_eq_false]
  cases hc : inL l t with
  | false => have := h2.2 hc; exact decide_eq_false (by omega)
  | true =>
    have : (l.filter (hasP · t)).length ≠ 0 := fun h => by rw [h2.1 h] at hc; cases hc
    exact decide_eq_true (by omega)
theorem sum_edges1 (t : Int) : ∀ l : List Per, sumBy (fun e => e.2.1) t (edgesOf 1 0 l) = cntP l t
  | [] => rfl
  | p :: l => by
    have ih := sum_edges1 t l
    unfold edgesOf
    by_cases hp : pv p = true
    · rw [if_pos hp]
      have hp' := pv_iff.1 hp
      simp only [sumBy, ih]
      unfold cntP
      by_cases h1 : p.1 ≤ t
      · by_cases h2 : p.2 ≤ t
        · have : hasP p t = false := by
            cases hc : hasP p t with
            | false => rfl
            | true => have := (hasP_iff.1 hc).2.2; omega
          simp [h1, h2, this]; omega
        · have : hasP p t = true := hasP_iff.2 ⟨hp, h1, by omega⟩
          simp [h1, h2, this]; omega
      · have : hasP p t = false := by
          cases hc : hasP p t with
          | false => rfl
          | true => have := (hasP_iff.1 hc).2.1; omega
        have h2 : ¬ p.2 ≤ t := by omega
        simp [h1, h2, this]
    · rw [if_neg hp, ih]
      have : hasP p t = false := by
        cases hc : hasP p t with
        | false => rfl
        | true => exact absurd (hasP_iff.1 hc).1 hp
      unfold cntP
      simp [this]
theorem sum_edges1' (t : Int) : ∀ l : List Per, sumBy (fun e => e.2.2) t (edgesOf 1 0 l) = 0
  | [] => rfl
  | p :: l => by
    have ih := sum_edges1' t l
    unfold edgesOf
    split
    · simp only [sumBy, ih]; split <;> split <;> rfl
    · exact ih
theorem sum_edges2 (t : Int) : ∀ l : List Per, sumBy (fun e => e.2.2) t (edgesOf 0 1 l) = cntP l t
  | [] => rfl
  | p :: l => by
    have ih := sum_edges2 t l
    have e1 := sum_edges1 t [p]
    unfold edgesOf at e1 ⊢
    by_cases hp : pv p = true
    · rw [if_pos hp] at e1 ⊢
      simp only [sumBy, edgesOf, Int.add_zero] at e1 ⊢
      rw [ih]
      have : cntP (p :: l) t = cntP [p] t + cntP l t := by
        unfold cntP; rw [show p :: l = [p] ++ l from rfl, List.filter_append, List.length_append]; omega
      rw [this, ← e1]; omega
    · rw [if_neg hp, ih]
      have : hasP p t = false := by
        cases hc : hasP p t with
        | false => rfl
        | true => exact absurd (hasP_iff.1 hc).1 hp
      unfold cntP
      simp [this]
theorem sum_edges2' (t : Int) : ∀ l : List Per, sumBy (fun e => e.2.1) t (edgesOf 0 1 l) = 0
  | [] => rfl
  | p :: l => by
    have ih := sum_edges2' t l
    unfold edgesOf
    split
    · simp only [sumBy, ih]; split <;> split <;> rfl
    · exact ih
theorem edges_rng (x y : Int) : ∀ l : List Per, ∀ e, e ∈ edgesOf x y l → 0 ≤ e.1 ∧ e.1 ≤ 1099511627776
  | [], e, h => by cases h
  | p :: l, e, h => by
    unfold edgesOf at h
    split at h
    · rename_i hp
      have := pv_iff.1 hp
      rcases List.mem_cons.1 h with rfl | h
      · show 0 ≤ p.1 ∧ p.1 ≤ _; omega
      · rcases List.mem_cons.1 h with rfl | h
        · show 0 ≤ p.2 ∧ p.2 ≤ _; omega
        · exact edges_rng x y l e h
    · exact edges_rng x y l e h
theorem edges_len (x y : Int) : ∀ l : List Per, (edgesOf x y l).length ≤ 2 * l.length
  | [] => by simp [edgesOf]
  | p :: l => by
    have := edges_len x y l
    unfold edgesOf
    split <;> simp only [List.length_cons] <;> omega
end Go.Sim.M
