/- Sorting in place by insertion and by merging, as slices.SortStableFunc does it, on plain lists: what each loop yields. -/
import Derived.Test.YtlapjnnkblbhdaaDoorSimS
set_option linter.unusedVariables false
set_option linter.unusedSimpArgs false
namespace Go.Sim.Srt
open Go.Sim
variable {α : Type}

/-- A comparison by which one can sort. -/
structure Ord (c : α → α → Int) : Prop where
  anti : ∀ x y, 0 < c x y ↔ c y x < 0
  trans : ∀ x y z, c x y ≤ 0 → c y z ≤ 0 → c x z ≤ 0

theorem Ord.le_of_not {c : α → α → Int} (h : Ord c) {x y : α} (hn : ¬ c x y < 0) : c y x ≤ 0 := by
  have := h.anti y x; omega
theorem Ord.lt_of_le_lt {c : α → α → Int} (h : Ord c) {x y z : α} (h1 : c x y ≤ 0) (h2 : c y z < 0) : c x z < 0 := by
  have h3 := h.anti z x
  have h4 := h.anti z y
  refine Classical.byContradiction fun hn => ?_
  have : c z y ≤ 0 := h.trans z x y (by omega) h1
  omega
theorem Ord.not_lt_of_le {c : α → α → Int} (h : Ord c) {x y : α} (hn : c y x ≤ 0) : ¬ c x y < 0 := by
  have := h.anti y x; omega

def Sorted (c : α → α → Int) (l : List α) : Prop := l.Pairwise fun x y => c x y ≤ 0

theorem sorted_append {c : α → α → Int} {l m : List α} : Sorted c (l ++ m) ↔ Sorted c l ∧ Sorted c m ∧ ∀ x, x ∈ l → ∀ y, y ∈ m → c x y ≤ 0 := List.pairwise_append

/-! ### Lists by places -/

theorem get_mid (A : List α) (x : α) (B : List α) {n : Nat} (h : n = A.length) : (A ++ x :: B)[n]? = some x := by
  subst h; simp
theorem set_mid (A : List α) (x y : α) (B : List α) {n : Nat} (h : n = A.length) : (A ++ x :: B).set n y = A ++ y :: B := by
  subst h; simp [List.set_append]
theorem snoc_of {l : List α} {k : Nat} (h : l.length = k + 1) : ∃ m y, l = m ++ [y] ∧ m.length = k := by
  rcases List.eq_nil_or_concat l with rfl | ⟨m, y, rfl⟩
  · simp at h
  · exact ⟨m, y, by simp, by simpa using h⟩
theorem split_at {l : List α} {k : Nat} (h : k ≤ l.length) : ∃ m r, l = m ++ r ∧ m.length = k := ⟨l.take k, l.drop k, (List.take_append_drop k l).symm, by simp [Nat.min_eq_left h]⟩

theorem iter_step_of {σ ρ : Type} {step : σ → Option (σ ⊕ ρ)} {s s' : σ} {r : Option ρ} (h : step s = some (.inl s')) (h2 : Iter step s' = r) : Iter step s = r := by rw [iter_step h, h2]

/-- Rounds that go side by side. -/
theorem iter_sim {σ ρ σ' ρ' : Type} {p : σ → Option (σ ⊕ ρ)} {g : σ' → Option (σ' ⊕ ρ')} (I : σ → Prop) (e : σ → σ') (f : ρ → ρ')
    (h : ∀ s, I s → (∀ s', p s = some (.inl s') → g (e s) = some (.inl (e s')) ∧ I s') ∧ (∀ r, p s = some (.inr r) → g (e s) = some (.inr (f r)))) {s : σ} {r : ρ} (hI : I s) (hr : Iter p s = some r) : Iter g (e s) = some (f r) := by
  obtain ⟨n, hn⟩ := iter_iff.1 hr
  clear hr
  induction n generalizing s with
  | zero => simp [iterN] at hn
  | succ n ih =>
    unfold iterN at hn
    obtain ⟨h1, h2⟩ := h s hI
    split at hn
    · rename_i s' hs
      obtain ⟨h3, h4⟩ := h1 s' hs
      rw [iter_step h3]
      exact ih h4 hn
    · rename_i r' hs
      simp only [Option.some.injEq] at hn
      subst hn
      exact iter_end (h2 _ hs)
    · simp at hn

/-! ### Insertion -/

/-- The element at 'j' goes down as long as it is less. -/
def insInner (c : α → α → Int) (a : Nat) : Nat × List α → Option ((Nat × List α) ⊕ List α) := fun (j, l) =>
  if a < j then match l[j]?, l[j - 1]? with
    | some x, some y => if c x y < 0 then some (.inl (j - 1, (l.set j y).set (j - 1) x)) else some (.inr l)
    | _, _ => none
  else some (.inr l)

theorem insInner_spec {c : α → α → Int} (hc : Ord c) (P : List α) (x : α) : ∀ (k : Nat) (m S : List α), m.length = k → Sorted c m →
    ∃ m', Iter (insInner c P.length) (P.length + k, P ++ (m ++ x :: S)) = some (P ++ (m' ++ S)) ∧ m'.Perm (m ++ [x]) ∧ Sorted c m' := by
  intro k
  induction k with
  | zero =>
    intro m S hm hs
    have : m = [] := List.eq_nil_of_length_eq_zero hm
    subst this
    exact ⟨[x], iter_end (by simp [insInner]), List.Perm.refl _, by simp [Sorted]⟩
  | succ k ih =>
    intro m S hm hs
    obtain ⟨m0, y, rfl, h0⟩ := snoc_of hm
    have e : P ++ (m0 ++ [y] ++ x :: S) = (P ++ m0) ++ y :: x :: S := by simp
    have e1 : (P ++ (m0 ++ [y] ++ x :: S))[P.length + (k + 1)]? = some x := by
      rw [show P ++ (m0 ++ [y] ++ x :: S) = (P ++ (m0 ++ [y])) ++ x :: S by simp]
      exact get_mid _ _ _ (by simp [h0])
    have e2 : (P ++ (m0 ++ [y] ++ x :: S))[P.length + (k + 1) - 1]? = some y := by
      rw [e]; exact get_mid _ _ _ (by simp only [List.length_append, h0]; omega)
    obtain ⟨s1, s2, s3⟩ := sorted_append.1 hs
    by_cases hlt : c x y < 0
    · obtain ⟨m', h1, h2, h3⟩ := ih m0 (y :: S) h0 s1
      refine ⟨m' ++ [y], ?_, ?_, ?_⟩
      · refine iter_step_of (s' := (P.length + k, P ++ (m0 ++ x :: y :: S))) ?_ (by rw [h1]; simp)
        have f1 : ((P ++ (m0 ++ [y] ++ x :: S)).set (P.length + (k + 1)) y).set (P.length + (k + 1) - 1) x = P ++ (m0 ++ x :: y :: S) := by
          rw [show P ++ (m0 ++ [y] ++ x :: S) = (P ++ (m0 ++ [y])) ++ x :: S by simp, set_mid _ _ _ _ (by simp [h0]), show P ++ (m0 ++ [y]) ++ y :: S = (P ++ m0) ++ y :: y :: S by simp, set_mid _ _ _ _ (by simp only [List.length_append, h0]; omega)]
          simp
        simp only [insInner, e1, e2, hlt, if_true, f1]
        rw [if_pos (by omega)]
        congr 2
      · exact (h2.append_right [y]).trans (by
          simp only [List.append_assoc]
          exact List.Perm.append_left m0 (List.Perm.swap _ _ _))
      · refine sorted_append.2 ⟨h3, by simp [Sorted], fun z hz w hw => ?_⟩
        have : w = y := by simpa using hw
        subst this
        have := h2.mem_iff.1 hz
        rcases List.mem_append.1 this with hz | hz
        · exact s3 z hz w (by simp)
        · have : z = x := by simpa using hz
          subst this; omega
    · refine ⟨m0 ++ [y] ++ [x], ?_, List.Perm.refl _, ?_⟩
      · refine iter_end ?_
        simp only [insInner, e1, e2, hlt, if_false]
        rw [if_pos (by omega)]
        simp
      · refine sorted_append.2 ⟨hs, by simp [Sorted], fun z hz w hw => ?_⟩
        have : w = x := by simpa using hw
        subst this
        have hy : c y w ≤ 0 := hc.le_of_not hlt
        rcases List.mem_append.1 hz with hz | hz
        · exact hc.trans _ _ _ (s3 z hz y (by simp)) hy
        · have : z = y := by simpa using hz
          subst this; exact hy

noncomputable def insStep (c : α → α → Int) (a b : Nat) : Nat × List α → Option ((Nat × List α) ⊕ List α) := fun (i, l) =>
  if i < b then match Iter (insInner c a) (i, l) with
    | some l' => some (.inl (i + 1, l'))
    | none => none
  else some (.inr l)

noncomputable def insSort (c : α → α → Int) (a b : Nat) (l : List α) : Option (List α) := Iter (insStep c a b) (a + 1, l)

theorem insOuter_spec {c : α → α → Int} (hc : Ord c) (P S : List α) (b : Nat) : ∀ (k : Nat) (R D : List α), R.length = k → b = P.length + D.length + k → Sorted c D →
    ∃ m', Iter (insStep c P.length b) (P.length + D.length, P ++ (D ++ (R ++ S))) = some (P ++ (m' ++ S)) ∧ m'.Perm (D ++ R) ∧ Sorted c m' := by
  intro k
  induction k with
  | zero =>
    intro R D hR hb hs
    have : R = [] := List.eq_nil_of_length_eq_zero hR
    subst this
    exact ⟨D, iter_end (by simp [insStep, hb]), by simp, hs⟩
  | succ k ih =>
    intro R D hR hb hs
    cases R with
    | nil => simp at hR
    | cons x R =>
      obtain ⟨D', h1, h2, h3⟩ := insInner_spec hc P x D.length D (R ++ S) rfl hs
      have hl : D'.length = D.length + 1 := by simpa using h2.length_eq
      obtain ⟨m', h4, h5, h6⟩ := ih R D' (by simpa using hR) (by omega) h3
      refine ⟨m', ?_, ?_, h6⟩
      · refine iter_step_of (s' := (P.length + D'.length, P ++ (D' ++ (R ++ S)))) ?_ h4
        have h1' : Iter (insInner c P.length) (P.length + D.length, P ++ (D ++ (x :: R ++ S))) = some (P ++ (D' ++ (R ++ S))) := by simpa using h1
        simp only [insStep, h1']
        rw [if_pos (by omega), hl]; rfl
      · refine h5.trans ((h2.append_right R).trans ?_)
        simp

theorem insSort_spec {c : α → α → Int} (hc : Ord c) (P m S : List α) : ∃ m', insSort c P.length (P.length + m.length) (P ++ (m ++ S)) = some (P ++ (m' ++ S)) ∧ m'.Perm m ∧ Sorted c m' := by
  cases m with
  | nil => exact ⟨[], iter_end (by simp only [insStep, List.length_nil, Nat.add_zero]; rw [if_neg (by omega)]), List.Perm.refl _, by simp [Sorted]⟩
  | cons x R =>
    obtain ⟨m', h1, h2, h3⟩ := insOuter_spec hc P S (P.length + (x :: R).length) R.length R [x] rfl (by simp; omega) (by simp [Sorted])
    exact ⟨m', by simpa [insSort] using h1, by simpa using h2, h3⟩

/-! ### Exchange of two ranges, rotation -/

def swrStep (a b n : Nat) : Nat × List α → Option ((Nat × List α) ⊕ List α) := fun (i, l) =>
  if i < n then match l[a + i]?, l[b + i]? with
    | some x, some y => some (.inl (i + 1, (l.set (a + i) y).set (b + i) x))
    | _, _ => none
  else some (.inr l)

noncomputable def swr (a b n : Nat) (l : List α) : Option (List α) := Iter (swrStep a b n) (0, l)

theorem swr_go (P M S : List α) (a b n : Nat) (hP : a = P.length) (hb : b = P.length + n + M.length) : ∀ (k : Nat) (X1 Y1 X2 Y2 : List α), X2.length = k → Y2.length = k → X1.length = Y1.length → X1.length + k = n →
    Iter (swrStep a b n) (X1.length, P ++ (Y1 ++ (X2 ++ (M ++ (X1 ++ (Y2 ++ S)))))) = some (P ++ ((Y1 ++ Y2) ++ (M ++ ((X1 ++ X2) ++ S)))) := by
  intro k
  induction k with
  | zero =>
    intro X1 Y1 X2 Y2 h1 h2 h3 h4
    have : X2 = [] := List.eq_nil_of_length_eq_zero h1
    subst this
    have : Y2 = [] := List.eq_nil_of_length_eq_zero h2
    subst this
    exact iter_end (by simp [swrStep, show ¬ X1.length < n by omega])
  | succ k ih =>
    intro X1 Y1 X2 Y2 h1 h2 h3 h4
    cases X2 with
    | nil => simp at h1
    | cons x X2 =>
      cases Y2 with
      | nil => simp at h2
      | cons y Y2 =>
        simp only [List.length_cons, Nat.add_right_cancel_iff] at h1 h2
        have e1 : P ++ (Y1 ++ (x :: X2 ++ (M ++ (X1 ++ (y :: Y2 ++ S))))) = (P ++ Y1) ++ x :: (X2 ++ (M ++ (X1 ++ (y :: Y2 ++ S)))) := by simp
        have e2 : ∀ z, (P ++ Y1) ++ z :: (X2 ++ (M ++ (X1 ++ (y :: Y2 ++ S)))) = (P ++ (Y1 ++ (z :: X2 ++ (M ++ X1)))) ++ y :: (Y2 ++ S) := by simp
        have g1 := get_mid (P ++ Y1) x (X2 ++ (M ++ (X1 ++ (y :: Y2 ++ S)))) (n := a + X1.length) (by simp [hP, h3])
        have g2 := get_mid (P ++ (Y1 ++ (x :: X2 ++ (M ++ X1)))) y (Y2 ++ S) (n := b + X1.length) (by simp [hb]; omega)
        rw [← e2, ← e1] at g2
        rw [← e1] at g1
        have := ih (X1 ++ [x]) (Y1 ++ [y]) X2 Y2 h1 h2 (by simp [h3]) (by simp; omega)
        refine iter_step_of (s' := ((X1 ++ [x]).length, P ++ (Y1 ++ [y] ++ (X2 ++ (M ++ (X1 ++ [x] ++ (Y2 ++ S))))))) ?_ (by rw [this]; simp)
        simp only [swrStep, g1, g2]
        rw [if_pos (by omega), e1, set_mid _ _ _ _ (by simp [hP, h3]), e2, set_mid _ _ _ _ (by simp [hb]; omega)]
        simp

theorem swr_spec (P X M Y S : List α) {n : Nat} (hX : X.length = n) (hY : Y.length = n) {a b : Nat} (ha : a = P.length) (hb : b = P.length + n + M.length) : swr a b n (P ++ (X ++ (M ++ (Y ++ S)))) = some (P ++ (Y ++ (M ++ (X ++ S)))) := by
  have := swr_go P M S a b n ha hb n [] [] X Y hX hY rfl (by simp)
  simpa [swr] using this

noncomputable def rotStep (m : Nat) : Nat × Nat × List α → Option ((Nat × Nat × List α) ⊕ (Nat × List α)) := fun (i, j, l) =>
  if i = j then some (.inr (i, l)) else
  if j < i then match swr (m - i) m j l with
    | some l' => some (.inl (i - j, j, l'))
    | none => none
  else match swr (m - i) (m + j - i) i l with
    | some l' => some (.inl (i, j - i, l'))
    | none => none

noncomputable def rot (a m b : Nat) (l : List α) : Option (List α) := match Iter (rotStep m) (m - a, b - m, l) with
  | some (i, l') => swr (m - i) m i l'
  | none => none

theorem rot_go (m : Nat) : ∀ (k : Nat) (P X Y S : List α), X.length + Y.length ≤ k → X ≠ [] → Y ≠ [] → m = P.length + X.length →
    ∃ i l', Iter (rotStep m) (X.length, Y.length, P ++ (X ++ (Y ++ S))) = some (i, l') ∧ swr (m - i) m i l' = some (P ++ (Y ++ (X ++ S))) := by
  intro k
  induction k with
  | zero =>
    intro P X Y S hk hX
    cases X with
    | nil => exact absurd rfl hX
    | cons x X => simp at hk
  | succ k ih =>
    intro P X Y S hk hX hY hm
    have hX0 : 0 < X.length := List.length_pos_iff.2 hX
    have hY0 : 0 < Y.length := List.length_pos_iff.2 hY
    by_cases h1 : X.length = Y.length
    · refine ⟨X.length, P ++ (X ++ (Y ++ S)), iter_end (by simp [rotStep, h1]), ?_⟩
      have := swr_spec P X [] Y S (n := X.length) rfl h1.symm (a := m - X.length) (b := m) (by omega) (by simp; omega)
      simpa using this
    · by_cases h2 : Y.length < X.length
      · obtain ⟨U, V, rfl, hU⟩ := split_at (Nat.le_of_lt h2)
        have hV : V ≠ [] := fun e => by subst e; simp at h2; omega
        simp only [List.length_append] at *
        have sw := swr_spec P U V Y S hU rfl (a := m - (U.length + V.length)) (b := m) (by omega) (by omega)
        obtain ⟨i, l', g1, g2⟩ := ih (P ++ Y) V U S (by omega) hV (fun e => by subst e; simp at hU; omega) (by simp; omega)
        refine ⟨i, l', ?_, by rw [g2]; simp⟩
        refine iter_step_of (s' := (V.length, U.length, (P ++ Y) ++ (V ++ (U ++ S)))) ?_ g1
        have e : P ++ (U ++ V ++ (Y ++ S)) = P ++ (U ++ (V ++ (Y ++ S))) := by simp
        simp only [rotStep, e]
        rw [← hU] at *
        rw [if_neg (by omega), if_pos (by omega), sw]
        simp only [Option.some.injEq, Sum.inl.injEq, Prod.mk.injEq]
        exact ⟨by omega, trivial, by simp⟩
      · obtain ⟨W, Z, rfl, hW⟩ := split_at (l := Y) (k := Y.length - X.length) (by omega)
        have hZ : Z.length = X.length := by simp at hW; simp at h1 h2; omega
        have hW0 : W ≠ [] := fun e => by subst e; simp at h1 h2 hW; omega
        simp only [List.length_append] at *
        have sw := swr_spec P X W Z S (n := X.length) rfl hZ (a := m - X.length) (b := m + (W.length + Z.length) - X.length) (by omega) (by omega)
        obtain ⟨i, l', g1, g2⟩ := ih P Z W (X ++ S) (by omega) (fun e => by subst e; simp at hZ; omega) hW0 (by omega)
        refine ⟨i, l', ?_, by rw [g2]; simp⟩
        refine iter_step_of (s' := (Z.length, W.length, P ++ (Z ++ (W ++ (X ++ S))))) ?_ g1
        have e : P ++ (X ++ (W ++ Z ++ S)) = P ++ (X ++ (W ++ (Z ++ S))) := by simp
        simp only [rotStep, e]
        rw [if_neg h1, if_neg h2, sw]
        simp only [Option.some.injEq, Sum.inl.injEq, Prod.mk.injEq]
        exact ⟨by omega, by omega, trivial⟩

theorem rot_spec (P X Y S : List α) (hX : X ≠ []) (hY : Y ≠ []) {a m b : Nat} (ha : a = P.length) (hm : m = P.length + X.length) (hb : b = P.length + X.length + Y.length) : rot a m b (P ++ (X ++ (Y ++ S))) = some (P ++ (Y ++ (X ++ S))) := by
  obtain ⟨i, l', h1, h2⟩ := rot_go m _ P X Y S (Nat.le_refl _) hX hY hm
  unfold rot
  rw [show m - a = X.length by omega, show b - m = Y.length by omega, h1]
  exact h2

/-! ### Search by halves, and shifts -/

def bsStep (t : Nat → Option Bool) : Nat × Nat → Option ((Nat × Nat) ⊕ Nat) := fun (i, j) =>
  if i < j then match t ((i + j) / 2) with
    | some true => some (.inl ((i + j) / 2 + 1, j))
    | some false => some (.inl (i, (i + j) / 2))
    | none => none
  else some (.inr i)

theorem bs_spec (t : Nat → Option Bool) (T : Nat → Bool) (lo hi : Nat) (ht : ∀ h, lo ≤ h → h < hi → t h = some (T h)) (hm : ∀ h h', lo ≤ h → h < h' → h' < hi → T h' = true → T h = true) :
    ∀ (k i j : Nat), j - i ≤ k → lo ≤ i → i ≤ j → j ≤ hi → (∀ h, lo ≤ h → h < i → T h = true) → (∀ h, j ≤ h → h < hi → T h = false) →
    ∃ r, Iter (bsStep t) (i, j) = some r ∧ i ≤ r ∧ r ≤ j ∧ (∀ h, lo ≤ h → h < r → T h = true) ∧ ∀ h, r ≤ h → h < hi → T h = false := by
  intro k
  induction k with
  | zero =>
    intro i j hk h1 h2 h3 h4 h5
    have : i = j := by omega
    subst this
    exact ⟨i, iter_end (by simp [bsStep]), Nat.le_refl _, Nat.le_refl _, h4, h5⟩
  | succ k ih =>
    intro i j hk h1 h2 h3 h4 h5
    by_cases hij : i < j
    · have hh := ht ((i + j) / 2) (by omega) (by omega)
      cases hT : T ((i + j) / 2) with
      | true =>
        obtain ⟨r, g1, g2, g3, g4, g5⟩ := ih ((i + j) / 2 + 1) j (by omega) (by omega) (by omega) h3 (fun h a b => by
          by_cases he : h = (i + j) / 2
          · rw [he]; exact hT
          · exact hm h ((i + j) / 2) a (by omega) (by omega) hT) h5
        refine ⟨r, ?_, by omega, g3, g4, g5⟩
        refine iter_step_of (s' := ((i + j) / 2 + 1, j)) ?_ g1
        simp only [bsStep, hh, hT]; rw [if_pos hij]
      | false =>
        obtain ⟨r, g1, g2, g3, g4, g5⟩ := ih i ((i + j) / 2) (by omega) h1 (by omega) (by omega) h4 (fun h a b => by
          cases hTh : T h with
          | false => rfl
          | true =>
            by_cases he : h = (i + j) / 2
            · rw [he, hT] at hTh; exact hTh.symm
            · have := hm ((i + j) / 2) h (by omega) (by omega) b hTh
              rw [hT] at this; exact absurd this (by simp))
        refine ⟨r, ?_, g2, by omega, g4, g5⟩
        refine iter_step_of (s' := (i, (i + j) / 2)) ?_ g1
        simp only [bsStep, hh, hT]; rw [if_pos hij]
    · have : i = j := by omega
      subst this
      exact ⟨i, iter_end (by simp [bsStep]), Nat.le_refl _, Nat.le_refl _, h4, h5⟩

theorem bs_all (t : Nat → Option Bool) (T : Nat → Bool) (lo hi : Nat) (hl : lo ≤ hi) (ht : ∀ h, lo ≤ h → h < hi → t h = some (T h)) (hm : ∀ h h', lo ≤ h → h < h' → h' < hi → T h' = true → T h = true) :
    ∃ r, Iter (bsStep t) (lo, hi) = some r ∧ lo ≤ r ∧ r ≤ hi ∧ (∀ h, lo ≤ h → h < r → T h = true) ∧ ∀ h, r ≤ h → h < hi → T h = false :=
  bs_spec t T lo hi ht hm (hi - lo) lo hi (Nat.le_refl _) (Nat.le_refl _) hl (Nat.le_refl _) (fun h a b => by omega) (fun h a b => by omega)

/-- 'for k := ..; k < e; k++ { exchange k, k+1 }' -/
def upStep (e : Nat) : Nat × List α → Option ((Nat × List α) ⊕ List α) := fun (k, l) =>
  if k < e then match l[k]?, l[k + 1]? with
    | some x, some y => some (.inl (k + 1, (l.set k y).set (k + 1) x))
    | _, _ => none
  else some (.inr l)

theorem up_spec (x : α) (S : List α) : ∀ (Y P : List α) (e : Nat), e = P.length + Y.length → Iter (upStep e) (P.length, P ++ (x :: (Y ++ S))) = some (P ++ (Y ++ x :: S))
  | [], P, e, he => iter_end (by simp [upStep, he])
  | y :: Y, P, e, he => by
    have := up_spec x S Y (P ++ [y]) e (by simp [he]; omega)
    have g2 := get_mid (P ++ [x]) y (Y ++ S) (n := P.length + 1) (by simp)
    rw [show P ++ [x] ++ y :: (Y ++ S) = P ++ (x :: (y :: Y ++ S)) by simp] at g2
    refine iter_step_of (s' := ((P ++ [y]).length, P ++ [y] ++ (x :: (Y ++ S)))) ?_ (by rw [this]; simp)
    simp only [upStep, get_mid P x (y :: Y ++ S) rfl, g2]
    rw [if_pos (by simp at he; omega), set_mid _ _ _ _ rfl, show P ++ y :: (y :: Y ++ S) = (P ++ [y]) ++ y :: (Y ++ S) by simp, set_mid _ _ _ _ (by simp)]
    simp

/-- 'for k := ..; k > e; k-- { exchange k, k-1 }' -/
def downStep (e : Nat) : Nat × List α → Option ((Nat × List α) ⊕ List α) := fun (k, l) =>
  if e < k then match l[k]?, l[k - 1]? with
    | some x, some y => some (.inl (k - 1, (l.set k y).set (k - 1) x))
    | _, _ => none
  else some (.inr l)

theorem down_spec (x : α) (P : List α) : ∀ (n : Nat) (Y S : List α), Y.length = n → Iter (downStep P.length) (P.length + n, P ++ (Y ++ x :: S)) = some (P ++ (x :: (Y ++ S))) := by
  intro n
  induction n with
  | zero =>
    intro Y S h
    have : Y = [] := List.eq_nil_of_length_eq_zero h
    subst this
    exact iter_end (by simp [downStep])
  | succ n ih =>
    intro Y S h
    obtain ⟨Y0, y, rfl, h0⟩ := snoc_of h
    have g1 := get_mid (P ++ (Y0 ++ [y])) x S (n := P.length + (n + 1)) (by simp [h0])
    have g2 := get_mid (P ++ Y0) y (x :: S) (n := P.length + (n + 1) - 1) (by simp only [List.length_append, h0]; omega)
    rw [show P ++ (Y0 ++ [y]) ++ x :: S = P ++ (Y0 ++ [y] ++ x :: S) by simp] at g1
    rw [show P ++ Y0 ++ y :: x :: S = P ++ (Y0 ++ [y] ++ x :: S) by simp] at g2
    refine iter_step_of (s' := (P.length + n, P ++ (Y0 ++ x :: y :: S))) ?_ (by rw [ih Y0 (y :: S) h0]; simp)
    simp only [downStep, g1, g2]
    rw [if_pos (by omega), show P ++ (Y0 ++ [y] ++ x :: S) = P ++ (Y0 ++ [y]) ++ x :: S by simp, set_mid _ _ _ _ (by simp [h0]), show P ++ (Y0 ++ [y]) ++ y :: S = P ++ Y0 ++ y :: y :: S by simp, set_mid _ _ _ _ (by simp only [List.length_append, h0]; omega)]
    simp only [Option.some.injEq, Sum.inl.injEq, Prod.mk.injEq]
    exact ⟨by omega, by simp⟩

/-! ### Merging in place -/

def get2 (c : α → α → Int) (l : List α) (i j : Nat) : Option Int := match l[i]?, l[j]? with
  | some x, some y => some (c x y)
  | _, _ => none

/-- Go's symMerge, with a depth. -/
noncomputable def symM (c : α → α → Int) : Nat → Nat → Nat → Nat → List α → Option (List α)
  | 0, _, _, _, _ => none
  | f + 1, a, m, b, l =>
    if m - a = 1 then match Iter (bsStep fun h => (get2 c l h a).map fun r => decide (r < 0)) (m, b) with
      | some i => Iter (upStep (i - 1)) (a, l)
      | none => none
    else if b - m = 1 then match Iter (bsStep fun h => (get2 c l m h).map fun r => !decide (r < 0)) (a, m) with
      | some i => Iter (downStep i) (m, l)
      | none => none
    else match Iter (bsStep fun h => (get2 c l ((a + b) / 2 + m - 1 - h) h).map fun r => !decide (r < 0)) (if (a + b) / 2 < m then ((a + b) / 2 + m - b, (a + b) / 2) else (a, m)) with
      | none => none
      | some s =>
        match (if s < m ∧ m < (a + b) / 2 + m - s then rot s m ((a + b) / 2 + m - s) l else some l) with
        | none => none
        | some l1 =>
          match (if a < s ∧ s < (a + b) / 2 then symM c f a s ((a + b) / 2) l1 else some l1) with
          | none => none
          | some l2 => if (a + b) / 2 < (a + b) / 2 + m - s ∧ (a + b) / 2 + m - s < b then symM c f ((a + b) / 2) ((a + b) / 2 + m - s) b l2 else some l2

theorem get_at (P X S : List α) {n k : Nat} (h : k < X.length) (hn : n = P.length + k) : (P ++ (X ++ S))[n]? = some X[k] := by
  subst hn
  rw [List.getElem?_append_right (by omega), Nat.add_sub_cancel_left, List.getElem?_append_left h]
  simp [h]

theorem sorted_get {c : α → α → Int} {l : List α} (h : Sorted c l) {i j : Nat} (hij : i < j) (hj : j < l.length) : c (l[i]'(by omega)) l[j] ≤ 0 := List.pairwise_iff_getElem.1 h i j (by omega) hj hij

theorem symM_spec {c : α → α → Int} (hc : Ord c) : ∀ (f : Nat) (P X Y S : List α), X ≠ [] → Y ≠ [] → Sorted c X → Sorted c Y → X.length + Y.length ≤ 2 ^ f →
    ∃ Z, symM c f P.length (P.length + X.length) (P.length + X.length + Y.length) (P ++ (X ++ (Y ++ S))) = some (P ++ (Z ++ S)) ∧ Z.Perm (X ++ Y) ∧ Sorted c Z := by
  intro f
  induction f with
  | zero =>
    intro P X Y S hX hY _ _ hl
    have := List.length_pos_iff.2 hX
    have := List.length_pos_iff.2 hY
    simp at hl; omega
  | succ f ih =>
    intro P X Y S hX hY sX sY hl
    have hX0 := List.length_pos_iff.2 hX
    have hY0 := List.length_pos_iff.2 hY
    generalize hl0 : P ++ (X ++ (Y ++ S)) = l
    have atX : ∀ k (hk : k < X.length), l[P.length + k]? = some X[k] := fun k hk => by rw [← hl0]; exact get_at P X (Y ++ S) hk rfl
    have atY : ∀ k (hk : k < Y.length), l[P.length + X.length + k]? = some Y[k] := fun k hk => by
      rw [← hl0, show P ++ (X ++ (Y ++ S)) = (P ++ X) ++ (Y ++ S) by simp]
      exact get_at (P ++ X) Y S hk (by simp)
    unfold symM
    by_cases hx1 : X.length = 1
    · -- one on the left
      rw [if_pos (by omega)]
      obtain ⟨x, rfl⟩ := List.length_eq_one_iff.1 hx1
      obtain ⟨r, h1, h2, h3, h4, h5⟩ := bs_all (fun h => (get2 c l h P.length).map fun r => decide (r < 0)) (fun h => decide (c (Y.getD (h - (P.length + 1)) x) x < 0)) (P.length + [x].length) (P.length + [x].length + Y.length) (by omega)
        (fun h a b => by
          simp only [List.length_singleton] at a b
          have g1 := atX 0 (by simp)
          have g2 := atY (h - (P.length + 1)) (by omega)
          simp only [List.length_singleton] at g2
          rw [show P.length + 1 + (h - (P.length + 1)) = h by omega] at g2
          simp only [Nat.add_zero, List.getElem_cons_zero] at g1
          simp only [get2, g1, g2, Option.map_some]
          simp [List.getD, show h - (P.length + 1) < Y.length by omega])
        (fun h h' a b e ht => by
          simp only [List.length_singleton] at a e
          simp only [decide_eq_true_eq] at ht ⊢
          have i1 : h - (P.length + 1) < Y.length := by omega
          have i2 : h' - (P.length + 1) < Y.length := by omega
          simp only [List.getD, List.getElem?_eq_getElem i1, List.getElem?_eq_getElem i2, Option.getD_some] at ht ⊢
          exact hc.lt_of_le_lt (sorted_get sY (by omega) i2) ht)
      rw [h1]
      simp only [List.length_singleton] at h2 h3 h4 h5
      obtain ⟨Y1, Y2, rfl, hY1⟩ := split_at (l := Y) (k := r - (P.length + 1)) (by omega)
      refine ⟨Y1 ++ x :: Y2, ?_, ?_, ?_⟩
      · have := up_spec x (Y2 ++ S) Y1 P (r - 1) (by omega)
        dsimp only
        rw [← hl0]
        simpa using this
      · simp only [List.singleton_append]
        exact List.perm_middle
      · obtain ⟨s1, s2, s3⟩ := sorted_append.1 sY
        have l1 : ∀ y, y ∈ Y1 → c y x < 0 := fun y hy => by
          obtain ⟨k, hk, rfl⟩ := List.mem_iff_getElem.1 hy
          have := h4 (P.length + 1 + k) (by omega) (by omega)
          simp only [decide_eq_true_eq, show P.length + 1 + k - (P.length + 1) = k by omega, List.getD, List.getElem?_append_left hk, List.getElem?_eq_getElem hk, Option.getD_some] at this
          exact this
        have l2 : ∀ y, y ∈ Y2 → ¬ c y x < 0 := fun y hy => by
          obtain ⟨k, hk, rfl⟩ := List.mem_iff_getElem.1 hy
          simp only [List.length_append] at h5
          have := h5 (P.length + 1 + (Y1.length + k)) (by omega) (by omega)
          simp only [decide_eq_false_iff_not, show P.length + 1 + (Y1.length + k) - (P.length + 1) = Y1.length + k by omega, List.getD, List.getElem?_append_right (Nat.le_add_right Y1.length k), Nat.add_sub_cancel_left, List.getElem?_eq_getElem hk, Option.getD_some] at this
          exact this
        refine sorted_append.2 ⟨s1, List.pairwise_cons.2 ⟨fun y hy => hc.le_of_not (l2 y hy), s2⟩, fun y hy z hz => ?_⟩
        rcases List.mem_cons.1 hz with rfl | hz
        · exact Int.le_of_lt (l1 y hy)
        · exact s3 y hy z hz
    · rw [if_neg (by omega)]
      by_cases hy1 : Y.length = 1
      · -- one on the right
        rw [if_pos (by omega)]
        obtain ⟨y, rfl⟩ := List.length_eq_one_iff.1 hy1
        obtain ⟨r, h1, h2, h3, h4, h5⟩ := bs_all (fun h => (get2 c l (P.length + X.length) h).map fun r => !decide (r < 0)) (fun h => !decide (c y (X.getD (h - P.length) y) < 0)) P.length (P.length + X.length) (by omega)
          (fun h a b => by
            have g1 := atY 0 (by simp)
            have g2 := atX (h - P.length) (by omega)
            rw [show P.length + (h - P.length) = h by omega] at g2
            simp only [Nat.add_zero, List.getElem_cons_zero] at g1
            simp only [get2, g1, g2, Option.map_some]
            simp [List.getD, show h - P.length < X.length by omega])
          (fun h h' a b e ht => by
            simp only [Bool.not_eq_true', decide_eq_false_iff_not] at ht ⊢
            have i1 : h - P.length < X.length := by omega
            have i2 : h' - P.length < X.length := by omega
            simp only [List.getD, List.getElem?_eq_getElem i1, List.getElem?_eq_getElem i2, Option.getD_some] at ht ⊢
            exact hc.not_lt_of_le (hc.trans _ _ _ (sorted_get sX (by omega) i2) (hc.le_of_not ht)))
        rw [h1]
        obtain ⟨X1, X2, rfl, hX1⟩ := split_at (l := X) (k := r - P.length) (by omega)
        refine ⟨X1 ++ y :: X2, ?_, ?_, ?_⟩
        · have := down_spec y (P ++ X1) X2.length X2 S rfl
          dsimp only
          rw [← hl0]
          simp only [List.length_append] at this h2 h3 ⊢
          rw [show r = P.length + X1.length by omega, ← Nat.add_assoc]
          simpa using this
        · rw [List.append_assoc]
          exact List.Perm.append_left X1 (List.perm_append_singleton y X2).symm
        · obtain ⟨s1, s2, s3⟩ := sorted_append.1 sX
          have l1 : ∀ x, x ∈ X1 → c x y ≤ 0 := fun x hx => by
            obtain ⟨k, hk, rfl⟩ := List.mem_iff_getElem.1 hx
            have := h4 (P.length + k) (by omega) (by omega)
            simp only [Bool.not_eq_true', decide_eq_false_iff_not, Nat.add_sub_cancel_left, List.getD, List.getElem?_append_left hk, List.getElem?_eq_getElem hk, Option.getD_some] at this
            exact hc.le_of_not this
          have l2 : ∀ x, x ∈ X2 → c y x < 0 := fun x hx => by
            obtain ⟨k, hk, rfl⟩ := List.mem_iff_getElem.1 hx
            simp only [List.length_append] at h5
            have := h5 (P.length + (X1.length + k)) (by omega) (by omega)
            simp only [Bool.not_eq_false', decide_eq_true_eq, Nat.add_sub_cancel_left, List.getD, List.getElem?_append_right (Nat.le_add_right X1.length k), List.getElem?_eq_getElem hk, Option.getD_some] at this
            exact this
          refine sorted_append.2 ⟨s1, List.pairwise_cons.2 ⟨fun x hx => Int.le_of_lt (l2 x hx), s2⟩, fun x hx z hz => ?_⟩
          rcases List.mem_cons.1 hz with rfl | hz
          · exact l1 x hx
          · exact s3 x hx z hz
      · rw [if_neg (by omega)]
        obtain ⟨mid, hmid⟩ : ∃ mid, mid = (P.length + (P.length + X.length + Y.length)) / 2 := ⟨_, rfl⟩
        rw [← hmid]
        -- the search's bounds
        obtain ⟨lo, hi, hlh, b1, b2, b3, b4, b5, b6, b7⟩ : ∃ lo hi, (if mid < P.length + X.length then (mid + (P.length + X.length) - (P.length + X.length + Y.length), mid) else (P.length, P.length + X.length)) = (lo, hi) ∧ lo ≤ hi ∧ P.length ≤ lo ∧
            hi ≤ P.length + X.length ∧ hi ≤ mid ∧ mid + (P.length + X.length) ≤ lo + (P.length + X.length + Y.length) ∧ (hi = mid ∨ hi = P.length + X.length) ∧ (lo = P.length ∨ lo + (P.length + X.length + Y.length) = mid + (P.length + X.length)) := by
          by_cases h : mid < P.length + X.length
          · exact ⟨_, _, if_pos h, by omega, by omega, by omega, by omega, by omega, .inl rfl, .inr (by omega)⟩
          · exact ⟨_, _, if_neg h, by omega, by omega, by omega, by omega, by omega, .inr rfl, .inl rfl⟩
        rw [hlh]
        have dX : ∃ x0 : α, True := ⟨X[0]'hX0, trivial⟩
        obtain ⟨x0, _⟩ := dX
        obtain ⟨s, h1, h2, h3, h4, h5⟩ := bs_all (fun h => (get2 c l (mid + (P.length + X.length) - 1 - h) h).map fun r => !decide (r < 0)) (fun h => !decide (c (Y.getD (mid - 1 - h) x0) (X.getD (h - P.length) x0) < 0)) lo hi (by omega)
          (fun h a b => by
            have g1 := atY (mid - 1 - h) (by omega)
            have g2 := atX (h - P.length) (by omega)
            rw [show P.length + (h - P.length) = h by omega] at g2
            rw [show P.length + X.length + (mid - 1 - h) = mid + (P.length + X.length) - 1 - h by omega] at g1
            simp only [get2, g1, g2, Option.map_some]
            simp [List.getD, show h - P.length < X.length by omega, show mid - 1 - h < Y.length by omega])
          (fun h h' a b e ht => by
            simp only [Bool.not_eq_true', decide_eq_false_iff_not] at ht ⊢
            have i1 : h - P.length < X.length := by omega
            have i2 : h' - P.length < X.length := by omega
            have i3 : mid - 1 - h < Y.length := by omega
            have i4 : mid - 1 - h' < Y.length := by omega
            simp only [List.getD, List.getElem?_eq_getElem i1, List.getElem?_eq_getElem i2, List.getElem?_eq_getElem i3, List.getElem?_eq_getElem i4, Option.getD_some] at ht ⊢
            refine hc.not_lt_of_le (hc.trans _ _ _ (sorted_get sX (by omega) i2) (hc.trans _ _ _ (hc.le_of_not ht) ?_))
            exact sorted_get sY (by omega) i3)
        rw [h1]
        obtain ⟨X1, X2, rfl, hX1⟩ := split_at (l := X) (k := s - P.length) (by omega)
        obtain ⟨Y1, Y2, rfl, hY1⟩ := split_at (l := Y) (k := mid - s) (by omega)
        simp only [List.length_append] at *
        obtain ⟨sX1, sX2, sX12⟩ := sorted_append.1 sX
        obtain ⟨sY1, sY2, sY12⟩ := sorted_append.1 sY
        -- who is before whom
        have c12 : ∀ x, x ∈ X1 → ∀ y, y ∈ Y2 → c x y ≤ 0 := fun x hx y hy => by
          obtain ⟨k, hk, rfl⟩ := List.mem_iff_getElem.1 hx
          obtain ⟨k', hk', rfl⟩ := List.mem_iff_getElem.1 hy
          have := h4 (s - 1) (by omega) (by omega)
          simp only [Bool.not_eq_true', decide_eq_false_iff_not] at this
          have i1 : s - 1 - P.length < X1.length := by omega
          rw [show mid - 1 - (s - 1) = Y1.length + 0 by omega] at this
          simp only [List.getD, List.getElem?_append_left i1, List.getElem?_eq_getElem i1, List.getElem?_append_right (Nat.le_add_right Y1.length 0), Nat.add_sub_cancel_left, List.getElem?_eq_getElem (show 0 < Y2.length by omega), Option.getD_some] at this
          have := hc.le_of_not this
          have q1 : c X1[k] (X1[s - 1 - P.length]'i1) ≤ 0 ∨ k = s - 1 - P.length := by
            by_cases e : k = s - 1 - P.length
            · exact .inr e
            · exact .inl (sorted_get sX1 (by omega) i1)
          have q2 : c (Y2[0]'(by omega)) Y2[k'] ≤ 0 ∨ k' = 0 := by
            by_cases e : k' = 0
            · exact .inr e
            · exact .inl (sorted_get sY2 (by omega) hk')
          have q3 : c X1[k] (Y2[0]'(by omega)) ≤ 0 := by
            rcases q1 with q | q
            · exact hc.trans _ _ _ q this
            · subst q; exact this
          rcases q2 with q | q
          · exact hc.trans _ _ _ q3 q
          · subst q; exact q3
        have c21 : ∀ y, y ∈ Y1 → ∀ x, x ∈ X2 → c y x ≤ 0 := fun y hy x hx => by
          obtain ⟨k, hk, rfl⟩ := List.mem_iff_getElem.1 hx
          obtain ⟨k', hk', rfl⟩ := List.mem_iff_getElem.1 hy
          have := h5 s (Nat.le_refl _) (by omega)
          simp only [Bool.not_eq_false', decide_eq_true_eq] at this
          have i1 : mid - 1 - s < Y1.length := by omega
          rw [show s - P.length = X1.length + 0 by omega] at this
          simp only [List.getD, List.getElem?_append_left i1, List.getElem?_eq_getElem i1, List.getElem?_append_right (Nat.le_add_right X1.length 0), Nat.add_sub_cancel_left, List.getElem?_eq_getElem (show 0 < X2.length by omega), Option.getD_some] at this
          have q1 : c Y1[k'] (Y1[mid - 1 - s]'i1) ≤ 0 ∨ k' = mid - 1 - s := by
            by_cases e : k' = mid - 1 - s
            · exact .inr e
            · exact .inl (sorted_get sY1 (by omega) i1)
          have q2 : c (X2[0]'(by omega)) X2[k] ≤ 0 ∨ k = 0 := by
            by_cases e : k = 0
            · exact .inr e
            · exact .inl (sorted_get sX2 (by omega) hk)
          have q3 : c Y1[k'] (X2[0]'(by omega)) ≤ 0 := by
            rcases q1 with q | q
            · exact hc.trans _ _ _ q (Int.le_of_lt this)
            · subst q; exact Int.le_of_lt this
          rcases q2 with q | q
          · exact hc.trans _ _ _ q3 q
          · subst q; exact q3
        -- the rotation
        have hrot : (if s < P.length + (X1.length + X2.length) ∧ P.length + (X1.length + X2.length) < mid + (P.length + (X1.length + X2.length)) - s then rot s (P.length + (X1.length + X2.length)) (mid + (P.length + (X1.length + X2.length)) - s) l else some l) = some (P ++ (X1 ++ (Y1 ++ (X2 ++ (Y2 ++ S))))) := by
          rw [← hl0]
          by_cases h : s < P.length + (X1.length + X2.length) ∧ P.length + (X1.length + X2.length) < mid + (P.length + (X1.length + X2.length)) - s
          · rw [if_pos h]
            have := rot_spec (P ++ X1) X2 Y1 (Y2 ++ S) (fun e => by subst e; simp at *; omega) (fun e => by subst e; simp at *; omega) (a := s) (m := P.length + (X1.length + X2.length)) (b := mid + (P.length + (X1.length + X2.length)) - s) (by simp; omega) (by simp; omega) (by simp; omega)
            simpa using this
          · rw [if_neg h]
            by_cases e : X2 = []
            · subst e; simp
            · have : Y1 = [] := by
                have := List.length_pos_iff.2 e
                exact List.eq_nil_of_length_eq_zero (by omega)
              subst this; simp
        rw [hrot]
        dsimp only
        have hp : 2 ^ (f + 1) = 2 * 2 ^ f := by rw [Nat.pow_succ]; omega
        -- the left half
        obtain ⟨Z1, e1, p1, q1⟩ : ∃ Z1, (if P.length < s ∧ s < mid then symM c f P.length s mid (P ++ (X1 ++ (Y1 ++ (X2 ++ (Y2 ++ S))))) else some (P ++ (X1 ++ (Y1 ++ (X2 ++ (Y2 ++ S)))))) = some (P ++ (Z1 ++ (X2 ++ (Y2 ++ S)))) ∧ Z1.Perm (X1 ++ Y1) ∧ Sorted c Z1 := by
          by_cases h : P.length < s ∧ s < mid
          · rw [if_pos h]
            obtain ⟨Z, g1, g2, g3⟩ := ih P X1 Y1 (X2 ++ (Y2 ++ S)) (fun e => by subst e; simp at *; omega) (fun e => by subst e; simp at *; omega) sX1 sY1 (by omega)
            rw [show P.length + X1.length = s by omega, show s + Y1.length = mid by omega] at g1
            exact ⟨Z, g1, g2, g3⟩
          · rw [if_neg h]
            refine ⟨X1 ++ Y1, by simp, List.Perm.refl _, ?_⟩
            by_cases e : X1 = []
            · subst e; simpa using sY1
            · have : Y1 = [] := by
                have := List.length_pos_iff.2 e
                exact List.eq_nil_of_length_eq_zero (by omega)
              subst this; simpa using sX1
        rw [e1]
        dsimp only
        have l1 := p1.length_eq
        simp only [List.length_append] at l1
        -- the right half
        obtain ⟨Z2, e2, p2, q2⟩ : ∃ Z2, (if mid < mid + (P.length + (X1.length + X2.length)) - s ∧ mid + (P.length + (X1.length + X2.length)) - s < P.length + (X1.length + X2.length) + (Y1.length + Y2.length) then symM c f mid (mid + (P.length + (X1.length + X2.length)) - s) (P.length + (X1.length + X2.length) + (Y1.length + Y2.length)) (P ++ (Z1 ++ (X2 ++ (Y2 ++ S)))) else some (P ++ (Z1 ++ (X2 ++ (Y2 ++ S))))) = some (P ++ (Z1 ++ (Z2 ++ S))) ∧ Z2.Perm (X2 ++ Y2) ∧ Sorted c Z2 := by
          by_cases h : mid < mid + (P.length + (X1.length + X2.length)) - s ∧ mid + (P.length + (X1.length + X2.length)) - s < P.length + (X1.length + X2.length) + (Y1.length + Y2.length)
          · rw [if_pos h]
            obtain ⟨Z, g1, g2, g3⟩ := ih (P ++ Z1) X2 Y2 S (fun e => by subst e; simp at *; omega) (fun e => by subst e; simp at *; omega) sX2 sY2 (by omega)
            simp only [List.length_append, List.append_assoc] at g1
            rw [show P.length + Z1.length = mid by omega, show mid + X2.length = mid + (P.length + (X1.length + X2.length)) - s by omega, show mid + (P.length + (X1.length + X2.length)) - s + Y2.length = P.length + (X1.length + X2.length) + (Y1.length + Y2.length) by omega] at g1
            exact ⟨Z, g1, g2, g3⟩
          · rw [if_neg h]
            refine ⟨X2 ++ Y2, by simp, List.Perm.refl _, ?_⟩
            by_cases e : X2 = []
            · subst e; simpa using sY2
            · have : Y2 = [] := by
                have := List.length_pos_iff.2 e
                exact List.eq_nil_of_length_eq_zero (by omega)
              subst this; simpa using sX2
        rw [e2]
        refine ⟨Z1 ++ Z2, by simp, ?_, ?_⟩
        · refine (p1.append p2).trans ?_
          simp only [List.append_assoc]
          refine List.Perm.append_left X1 ?_
          rw [← List.append_assoc, ← List.append_assoc]
          exact List.Perm.append_right Y2 List.perm_append_comm
        · refine sorted_append.2 ⟨q1, q2, fun z hz w hw => ?_⟩
          rcases List.mem_append.1 (p1.mem_iff.1 hz) with hz | hz <;> rcases List.mem_append.1 (p2.mem_iff.1 hw) with hw | hw
          · exact sX12 z hz w hw
          · exact c12 z hz w hw
          · exact c21 z hz w hw
          · exact sY12 z hz w hw

/-! ### The whole sort -/

noncomputable def stIns (c : α → α → Int) (n : Nat) : Nat × Nat × List α → Option ((Nat × Nat × List α) ⊕ (Nat × List α)) := fun (a, b, l) =>
  if b ≤ n then match insSort c a b l with
    | some l' => some (.inl (b, b + 20, l'))
    | none => none
  else some (.inr (a, l))

noncomputable def stMrgIn (c : α → α → Int) (f bs n : Nat) : Nat × Nat × List α → Option ((Nat × Nat × List α) ⊕ (Nat × List α)) := fun (a, b, l) =>
  if b ≤ n then match symM c f a (a + bs) b l with
    | some l' => some (.inl (b, b + 2 * bs, l'))
    | none => none
  else some (.inr (a, l))

noncomputable def stMrg (c : α → α → Int) (f n : Nat) : Nat × List α → Option ((Nat × List α) ⊕ List α) := fun (bs, l) =>
  if bs < n then match Iter (stMrgIn c f bs n) (0, 2 * bs, l) with
    | some (a, l1) => if a + bs < n then match symM c f a (a + bs) n l1 with
        | some l2 => some (.inl (bs * 2, l2))
        | none => none
      else some (.inl (bs * 2, l1))
    | none => none
  else some (.inr l)

noncomputable def stable (c : α → α → Int) (f n : Nat) (l : List α) : Option (List α) := match Iter (stIns c n) (0, 20, l) with
  | some (a, l1) => match insSort c a n l1 with
    | some l2 => Iter (stMrg c f n) (20, l2)
    | none => none
  | none => none

inductive Full (c : α → α → Int) (bs : Nat) : List α → Prop where
  | nil : Full c bs []
  | snoc {D m : List α} : Full c bs D → m.length = bs → Sorted c m → Full c bs (D ++ m)

inductive Bl (c : α → α → Int) (bs : Nat) : List α → Prop where
  | last {m : List α} : m.length ≤ bs → Sorted c m → Bl c bs m
  | more {m R : List α} : m.length = bs → Sorted c m → Bl c bs R → Bl c bs (m ++ R)

theorem Full.bl {c : α → α → Int} {bs : Nat} {D : List α} (h : Full c bs D) : ∀ {R : List α}, Bl c bs R → Bl c bs (D ++ R) := by
  induction h with
  | nil => intro R hR; exact hR
  | snoc _ h1 h2 ih => intro R hR; rw [List.append_assoc]; exact ih (.more h1 h2 hR)

theorem Bl.first {c : α → α → Int} {bs : Nat} {R : List α} (h : Bl c bs R) (hl : bs ≤ R.length) : ∃ X R', R = X ++ R' ∧ X.length = bs ∧ Sorted c X ∧ Bl c bs R' := by
  cases h with
  | last h1 h2 => exact ⟨R, [], by simp, by omega, h2, .last (by simp) (by simp [Sorted])⟩
  | more h1 h2 h3 => exact ⟨_, _, rfl, h1, h2, h3⟩

theorem Bl.short {c : α → α → Int} {bs : Nat} {R : List α} (h : Bl c bs R) (hl : R.length ≤ bs) : Sorted c R := by
  cases h with
  | last h1 h2 => exact h2
  | more h1 h2 h3 =>
    rename_i m R
    have : R = [] := List.eq_nil_of_length_eq_zero (by simp at hl; omega)
    subst this; simpa using h2

theorem stIns_spec {c : α → α → Int} (hc : Ord c) (n : Nat) : ∀ (k : Nat) (R D : List α), R.length ≤ k → n = D.length + R.length → Full c 20 D →
    ∃ D' R', Iter (stIns c n) (D.length, D.length + 20, D ++ R) = some (D'.length, D' ++ R') ∧ n = D'.length + R'.length ∧ R'.length < 20 ∧ Full c 20 D' ∧ (D' ++ R').Perm (D ++ R) := by
  intro k
  induction k with
  | zero =>
    intro R D hk hn hD
    exact ⟨D, R, iter_end (by simp only [stIns]; rw [if_neg (by omega)]), hn, by omega, hD, List.Perm.refl _⟩
  | succ k ih =>
    intro R D hk hn hD
    by_cases h : 20 ≤ R.length
    · obtain ⟨m, R', rfl, hm⟩ := split_at h
      obtain ⟨m', g1, g2, g3⟩ := insSort_spec hc D m R'
      have hl := g2.length_eq
      simp only [List.length_append] at hk hn
      obtain ⟨D', R'', i1, i2, i3, i4, i5⟩ := ih R' (D ++ m') (by omega) (by simp; omega) (hD.snoc (by omega) g3)
      refine ⟨D', R'', ?_, i2, i3, i4, ?_⟩
      · refine iter_step_of (s' := ((D ++ m').length, (D ++ m').length + 20, D ++ m' ++ R')) ?_ i1
        simp only [stIns]
        rw [if_pos (by omega), show D.length + 20 = D.length + m.length by omega, g1]
        simp only [List.length_append, List.append_assoc, Option.some.injEq, Sum.inl.injEq, Prod.mk.injEq, and_true]
        omega
      · refine i5.trans ?_
        simp only [List.append_assoc]
        exact List.Perm.append_left D (g2.append_right R')
    · exact ⟨D, R, iter_end (by simp only [stIns]; rw [if_neg (by omega)]), hn, by omega, hD, List.Perm.refl _⟩

theorem stMrgIn_spec {c : α → α → Int} (hc : Ord c) (f bs n : Nat) (hbs : 0 < bs) (hf : n ≤ 2 ^ f) : ∀ (k : Nat) (R D : List α), R.length ≤ k → n = D.length + R.length → Full c (2 * bs) D → Bl c bs R →
    ∃ D' R', Iter (stMrgIn c f bs n) (D.length, D.length + 2 * bs, D ++ R) = some (D'.length, D' ++ R') ∧ n = D'.length + R'.length ∧ R'.length < 2 * bs ∧ Full c (2 * bs) D' ∧ Bl c bs R' ∧ (D' ++ R').Perm (D ++ R) := by
  intro k
  induction k with
  | zero =>
    intro R D hk hn hD hR
    exact ⟨D, R, iter_end (by simp only [stMrgIn]; rw [if_neg (by omega)]), hn, by omega, hD, hR, List.Perm.refl _⟩
  | succ k ih =>
    intro R D hk hn hD hR
    by_cases h : 2 * bs ≤ R.length
    · obtain ⟨X, R1, rfl, hX, sX, hR1⟩ := hR.first (by omega)
      simp only [List.length_append] at hk hn h
      obtain ⟨Y, R', rfl, hY, sY, hR'⟩ := hR1.first (by omega)
      simp only [List.length_append] at hk hn h
      obtain ⟨Z, g1, g2, g3⟩ := symM_spec hc f D X Y R' (fun e => by subst e; simp at hX; omega) (fun e => by subst e; simp at hY; omega) sX sY (by omega)
      have hl := g2.length_eq
      simp only [List.length_append] at hl
      obtain ⟨D', R'', i1, i2, i3, i4, i5, i6⟩ := ih R' (D ++ Z) (by omega) (by simp; omega) (hD.snoc (by omega) g3) hR'
      refine ⟨D', R'', ?_, i2, i3, i4, i5, ?_⟩
      · refine iter_step_of (s' := ((D ++ Z).length, (D ++ Z).length + 2 * bs, D ++ Z ++ R')) ?_ i1
        simp only [stMrgIn]
        rw [if_pos (by omega), show D.length + bs = D.length + X.length by omega, show D.length + 2 * bs = D.length + X.length + Y.length by omega, g1]
        simp only [List.length_append, List.append_assoc, Option.some.injEq, Sum.inl.injEq, Prod.mk.injEq, and_true]
        omega
      · refine i6.trans ?_
        simp only [List.append_assoc]
        refine List.Perm.append_left D ?_
        rw [← List.append_assoc X Y R']
        exact g2.append_right R'
    · exact ⟨D, R, iter_end (by simp only [stMrgIn]; rw [if_neg (by omega)]), hn, by omega, hD, hR, List.Perm.refl _⟩

theorem stMrg_spec {c : α → α → Int} (hc : Ord c) (f n : Nat) (hf : n ≤ 2 ^ f) : ∀ (k bs : Nat) (l : List α), n - bs ≤ k → 0 < bs → l.length = n → Bl c bs l →
    ∃ l', Iter (stMrg c f n) (bs, l) = some l' ∧ l'.Perm l ∧ Sorted c l' := by
  intro k
  induction k with
  | zero =>
    intro bs l hk hbs hl hB
    exact ⟨l, iter_end (by simp only [stMrg]; rw [if_neg (by omega)]), List.Perm.refl _, hB.short (by omega)⟩
  | succ k ih =>
    intro bs l hk hbs hl hB
    by_cases h : bs < n
    · obtain ⟨D, R, g1, g2, g3, g4, g5, g6⟩ := stMrgIn_spec hc f bs n hbs hf l.length l [] (Nat.le_refl _) (by simp [hl]) .nil hB
      simp only [List.length_nil, Nat.zero_add, List.nil_append] at g1 g6
      by_cases h2 : D.length + bs < n
      · obtain ⟨X, Y, rfl, hX, sX, hY⟩ := g5.first (by omega)
        simp only [List.length_append] at g2 g3
        have sY := hY.short (by omega)
        obtain ⟨Z, i1, i2, i3⟩ := symM_spec hc f D X Y [] (fun e => by subst e; simp at hX; omega) (fun e => by subst e; simp at *; omega) sX sY (by omega)
        simp only [List.append_nil] at i1
        have hZ := i2.length_eq
        simp only [List.length_append] at hZ
        obtain ⟨l', j1, j2, j3⟩ := ih (bs * 2) (D ++ Z) (by omega) (by omega) (by simp; omega) (by rw [Nat.mul_comm]; exact g4.bl (.last (by omega) i3))
        refine ⟨l', ?_, j2.trans ((List.Perm.append_left D i2).trans g6), j3⟩
        refine iter_step_of (s' := (bs * 2, D ++ Z)) ?_ j1
        simp only [stMrg, g1]
        rw [if_pos h, if_pos h2, show D.length + bs = D.length + X.length by omega, show n = D.length + X.length + Y.length by omega, i1]
      · obtain ⟨l', j1, j2, j3⟩ := ih (bs * 2) (D ++ R) (by omega) (by omega) (by simp; omega) (by rw [Nat.mul_comm]; exact g4.bl (.last (by omega) (g5.short (by omega))))
        refine ⟨l', ?_, j2.trans g6, j3⟩
        refine iter_step_of (s' := (bs * 2, D ++ R)) ?_ j1
        simp only [stMrg, g1]
        rw [if_pos h, if_neg h2]
    · exact ⟨l, iter_end (by simp only [stMrg]; rw [if_neg h]), List.Perm.refl _, hB.short (by omega)⟩

theorem stable_spec {c : α → α → Int} (hc : Ord c) (f n : Nat) (hf : n ≤ 2 ^ f) (l : List α) (hl : l.length = n) : ∃ l', stable c f n l = some l' ∧ l'.Perm l ∧ Sorted c l' := by
  obtain ⟨D, R, g1, g2, g3, g4, g5⟩ := stIns_spec hc n l.length l [] (Nat.le_refl _) (by simp [hl]) .nil
  simp only [List.length_nil, Nat.zero_add, List.nil_append] at g1 g5
  obtain ⟨R', i1, i2, i3⟩ := insSort_spec hc D R []
  simp only [List.append_nil] at i1
  have hR := i2.length_eq
  obtain ⟨l', j1, j2, j3⟩ := stMrg_spec hc f n hf n 20 (D ++ R') (by omega) (by omega) (by simp; omega) (g4.bl (.last (by omega) i3))
  refine ⟨l', ?_, j2.trans ((List.Perm.append_left D i2).trans g5), j3⟩
  unfold stable
  rw [g1]
  dsimp only
  rw [show n = D.length + R.length by omega, i1, ← show n = D.length + R.length by omega]
  exact j1

end Go.Sim.Srt
