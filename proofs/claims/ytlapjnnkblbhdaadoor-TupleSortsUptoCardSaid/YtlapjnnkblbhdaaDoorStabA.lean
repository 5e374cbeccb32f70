/- Lists of rows as the executor has them, and what the loops of the stable sort are to them. -/
import Derived.Test.YtlapjnnkblbhdaaDoorL5
import Derived.Test.YtlapjnnkblbhdaaDoorPlainA
import Derived.Test.YtlapjnnkblbhdaaDoorSort
set_option linter.unusedVariables false
set_option linter.unusedSimpArgs false
set_option maxRecDepth 100000
namespace Go.Sim.M
open Go.RowKit Go.Sim.Srt

abbrev encL (l : List Row) : List AV := l.map encR

theorem gR {l : List Row} {i : Nat} {x : Row} (h : l[i]? = some x) : (encL l).getD i .top = encR x := by
  simp [encL, List.getD, h]
@[simp] theorem cells_encR (x : Row) : (encR x).cells = [encR x] := rfl
@[simp] theorem toList_encR (x : Row) : (encR x).toList = x.map encV := rfl
@[simp] theorem sh_encR (x : Row) : hasSh1 (Sh.list 3) (encR x) = true := rfl
theorem setR (l : List Row) (i : Nat) (x : Row) : (encL l).set i (AV.list 3 (x.map encV)) = encL (l.set i x) := by
  simp [encL, List.map_set, encR]
theorem lt_of_get {l : List Row} {i : Nat} {x : Row} (h : l[i]? = some x) : i < l.length := (List.getElem?_eq_some_iff.1 h).1
theorem mem_of_get {l : List Row} {i : Nat} {x : Row} (h : l[i]? = some x) : x ∈ l := List.mem_of_getElem? h
theorem mem_set2 {l : List Row} {i j : Nat} {x y : Row} (hx : x ∈ l) (hy : y ∈ l) {z : Row} (h : z ∈ (l.set i y).set j x) : z ∈ l := by
  rcases List.mem_or_eq_of_mem_set h with h | rfl
  · rcases List.mem_or_eq_of_mem_set h with h | rfl
    · exact h
    · exact hy
  · exact hx
theorem w64 {x : Int} {n : Nat} (h : x = (n : Int)) (hn : n ≤ 9223372036854775807) : IntKind.i64.wrap x = (n : Int) := by
  rw [wrap_i64 (by omega) (by omega)]; exact h
theorem half64 {i j : Nat} (h : i + j ≤ 9223372036854775807) : IntKind.i64.wrap ((IntKind.u64.wrap (IntKind.i64.wrap ((i : Int) + (j : Int)))).fdiv 2) = (((i + j) / 2 : Nat) : Int) := by
  rw [wrap_i64 (n := (i : Int) + (j : Int)) (by omega) (by omega)]
  have hu : IntKind.u64.wrap ((i : Int) + (j : Int)) = (i : Int) + (j : Int) := by
    unfold IntKind.wrap IntKind.bits IntKind.signed; simp; omega
  rw [hu, Int.fdiv_eq_ediv_of_nonneg _ (by omega)]
  exact w64 (by omega) (by omega)

/-- What is known of a list of rows within the sort. -/
structure LOk (N : Nat) (ok : Row → Prop) (l : List Row) : Prop where
  len : l.length = N
  ok : ∀ x, x ∈ l → ok x

theorem LOk.set2 {N : Nat} {ok : Row → Prop} {l : List Row} (h : LOk N ok l) {i j : Nat} {x y : Row} (hx : x ∈ l) (hy : y ∈ l) : LOk N ok ((l.set i y).set j x) :=
  ⟨by simp [h.len], fun z hz => h.ok z (mem_set2 hx hy hz)⟩
theorem LOk.perm {N : Nat} {ok : Row → Prop} {l l' : List Row} (h : LOk N ok l) (hp : l'.Perm l) : LOk N ok l' :=
  ⟨hp.length_eq.trans h.len, fun z hz => h.ok z (hp.mem_iff.1 hz)⟩

/-! ### The same rounds -/

theorem iter_sim2 {σ ρ σ' ρ' : Type} {p : σ → Option (σ ⊕ ρ)} {g : σ' → Option (σ' ⊕ ρ')} (I : σ → Prop) (J : ρ → Prop) (e : σ → σ') (f : ρ → ρ')
    (h : ∀ s, I s → (∀ s', p s = some (.inl s') → g (e s) = some (.inl (e s')) ∧ I s') ∧ (∀ r, p s = some (.inr r) → g (e s) = some (.inr (f r)) ∧ J r)) {s : σ} {r : ρ} (hI : I s) (hr : Iter p s = some r) : Iter g (e s) = some (f r) ∧ J r := by
  obtain ⟨n, hn⟩ := iter_iff.1 hr
  clear hr
  induction n generalizing s with
  | zero => simp [iterN] at hn
  | succ n ih =>
    unfold iterN at hn
    obtain ⟨h1, h2⟩ := h s hI
    split at hn
    · rename_i s' hs
      obtain ⟨h3, h4⟩ := h1 s' hs
      rw [iter_step h3]
      exact ih h4 hn
    · rename_i r' hs
      simp only [Option.some.injEq] at hn
      subst hn
      obtain ⟨h3, h4⟩ := h2 _ hs
      exact ⟨iter_end h3, h4⟩
    · simp at hn

/-- A round that goes on. -/
theorem go_on {σ ρ σ' ρ' : Type} {p : Option (σ ⊕ ρ)} {g : Option (σ' ⊕ ρ')} {I : σ → Prop} {J : ρ → Prop} {e : σ → σ'} {f : ρ → ρ'} {s0 : σ} (hp : p = some (.inl s0)) (hg : g = some (.inl (e s0))) (hI : I s0) :
    (∀ s', p = some (.inl s') → g = some (.inl (e s')) ∧ I s') ∧ (∀ r, p = some (.inr r) → g = some (.inr (f r)) ∧ J r) :=
  ⟨fun s' h => by rw [hp] at h; simp only [Option.some.injEq, Sum.inl.injEq] at h; subst h; exact ⟨hg, hI⟩, fun r h => by rw [hp] at h; simp at h⟩
/-- A round that ends. -/
theorem go_end {σ ρ σ' ρ' : Type} {p : Option (σ ⊕ ρ)} {g : Option (σ' ⊕ ρ')} {I : σ → Prop} {J : ρ → Prop} {e : σ → σ'} {f : ρ → ρ'} {r0 : ρ} (hp : p = some (.inr r0)) (hg : g = some (.inr (f r0))) (hJ : J r0) :
    (∀ s', p = some (.inl s') → g = some (.inl (e s')) ∧ I s') ∧ (∀ r, p = some (.inr r) → g = some (.inr (f r)) ∧ J r) :=
  ⟨fun s' h => by rw [hp] at h; simp at h, fun r h => by rw [hp] at h; simp only [Option.some.injEq, Sum.inr.injEq] at h; subst h; exact ⟨hg, hJ⟩⟩
/-- A round that is none. -/
theorem go_none {σ ρ σ' ρ' : Type} {p : Option (σ ⊕ ρ)} {g : Option (σ' ⊕ ρ')} {I : σ → Prop} {J : ρ → Prop} {e : σ → σ'} {f : ρ → ρ'} (hp : p = none) :
    (∀ s', p = some (.inl s') → g = some (.inl (e s')) ∧ I s') ∧ (∀ r, p = some (.inr r) → g = some (.inr (f r)) ∧ J r) :=
  ⟨fun s' h => by rw [hp] at h; simp at h, fun r h => by rw [hp] at h; simp at h⟩

theorem sim_ins {N : Nat} (hN : N ≤ 2 ^ 60) {ok : Row → Prop} {c : Row → Row → Int} {P : List AV → List AV → Bool} {V : List AV → List AV → Int} (hc : ∀ x y, ok x → ok y → P (x.map encV) (y.map encV) = true ∧ V (x.map encV) (y.map encV) = c x y)
    {g : Int × List AV → Option ((Int × List AV) ⊕ List AV)} (a : Nat)
    (hg : ∀ (j : Int) (xs : List AV), g (j, xs) = br (decide (j > (a : Int))) (br (decide ((0 : Int) ≤ j) && decide (j < (N : Int))) (br (decide ((0 : Nat) + j.toNat < xs.length) && hasSh1 (Sh.list 3) ((xs.getD ((0 : Nat) + j.toNat) AV.top).cells.getD 0 AV.top))
      (br (decide ((0 : Int) ≤ IntKind.i64.wrap (j - 1)) && decide (IntKind.i64.wrap (j - 1) < (N : Int))) (br (decide ((0 : Nat) + (IntKind.i64.wrap (j - 1)).toNat < xs.length) && hasSh1 (Sh.list 3) ((xs.getD ((0 : Nat) + (IntKind.i64.wrap (j - 1)).toNat) AV.top).cells.getD 0 AV.top))
      (br (P ((xs.getD ((0 : Nat) + j.toNat) AV.top).cells.getD 0 AV.top).toList ((xs.getD ((0 : Nat) + (IntKind.i64.wrap (j - 1)).toNat) AV.top).cells.getD 0 AV.top).toList)
      (br (decide (V ((xs.getD ((0 : Nat) + j.toNat) AV.top).cells.getD 0 AV.top).toList ((xs.getD ((0 : Nat) + (IntKind.i64.wrap (j - 1)).toNat) AV.top).cells.getD 0 AV.top).toList < 0))
      (br (decide ((0 : Int) ≤ IntKind.i64.wrap (j - 1)) && decide (IntKind.i64.wrap (j - 1) < (N : Int))) (br (decide ((0 : Nat) + (IntKind.i64.wrap (j - 1)).toNat < xs.length) && hasSh1 (Sh.list 3) ((xs.getD ((0 : Nat) + (IntKind.i64.wrap (j - 1)).toNat) AV.top).cells.getD 0 AV.top))
      (br (decide ((0 : Int) ≤ j) && decide (j < (N : Int))) (br (decide ((0 : Nat) + j.toNat < xs.length) && hasSh1 (Sh.list 3) ((xs.getD ((0 : Nat) + j.toNat) AV.top).cells.getD 0 AV.top))
      (br (decide ((0 : Int) ≤ j) && decide (j < (N : Int))) (br (decide ((0 : Nat) + j.toNat < xs.length)) (br (decide ((0 : Int) ≤ IntKind.i64.wrap (j - 1)) && decide (IntKind.i64.wrap (j - 1) < (N : Int)))
      (br (decide ((0 : Nat) + (IntKind.i64.wrap (j - 1)).toNat < (xs.set ((0 : Nat) + j.toNat) (AV.list 3 ((xs.getD ((0 : Nat) + (IntKind.i64.wrap (j - 1)).toNat) AV.top).cells.getD 0 AV.top).toList)).length))
        (some (.inl (IntKind.i64.wrap (j - 1), (xs.set ((0 : Nat) + j.toNat) (AV.list 3 ((xs.getD ((0 : Nat) + (IntKind.i64.wrap (j - 1)).toNat) AV.top).cells.getD 0 AV.top).toList)).set ((0 : Nat) + (IntKind.i64.wrap (j - 1)).toNat) (AV.list 3 ((xs.getD ((0 : Nat) + j.toNat) AV.top).cells.getD 0 AV.top).toList))))
        none) none) none) none) none) none) none) none) (some (.inr xs))) none) none) none) none) none) (some (.inr xs)))
    {j : Nat} {l r : List Row} (hl : LOk N ok l) (hr : Iter (insInner c a) (j, l) = some r) : Iter g ((j : Int), encL l) = some (encL r) ∧ LOk N ok r := by
  refine iter_sim2 (I := fun s => LOk N ok s.2) (J := LOk N ok) (e := fun s => ((s.1 : Int), encL s.2)) (f := encL) ?_ (s := (j, l)) hl hr
  rintro ⟨j, l⟩ (hl : LOk N ok l)
  have hlen : l.length = N := hl.len
  by_cases ha : a < j
  · cases hx : l[j]? with
    | none => exact go_none (by simp [insInner, ha, hx])
    | some x =>
      cases hy : l[j - 1]? with
      | none => exact go_none (by simp [insInner, ha, hx, hy])
      | some y =>
        have hj := lt_of_get hx
        have hj1 := lt_of_get hy
        have w1 : IntKind.i64.wrap ((j : Int) - 1) = ((j - 1 : Nat) : Int) := w64 (by omega) (by omega)
        obtain ⟨c1, c2⟩ := hc x y (hl.ok _ (mem_of_get hx)) (hl.ok _ (mem_of_get hy))
        have k1 : (j : Int) < (N : Int) := by omega
        have k2 : ((j - 1 : Nat) : Int) < (N : Int) := by omega
        have k3 : (j : Int) > (a : Int) := by omega
        have k4 : j < (encL l).length := by simpa using hj
        have k5 : j - 1 < (encL l).length := by simpa using hj1
        by_cases hlt : c x y < 0
        · have hp : insInner c a (j, l) = some (.inl (j - 1, (l.set j y).set (j - 1) x)) := by simp [insInner, ha, hx, hy, hlt]
          have hgg : g ((j : Int), encL l) = some (.inl (((j - 1 : Nat) : Int), encL ((l.set j y).set (j - 1) x))) := by
            rw [hg]
            simp only [w1, Int.toNat_natCast, Nat.zero_add, gR hx, gR hy, cells_encR, toList_encR, sh_encR, List.getD_cons_zero, c1, c2, setR, hlt, k1, k2, k3, k4, k5, decide_true, Bool.and_true, br_tt, Int.natCast_nonneg, List.length_map, List.length_set, hj, hj1]
          exact go_on hp hgg (hl.set2 (mem_of_get hx) (mem_of_get hy))
        · have hp : insInner c a (j, l) = some (.inr l) := by simp [insInner, ha, hx, hy, hlt]
          have hgg : g ((j : Int), encL l) = some (.inr (encL l)) := by
            rw [hg]
            simp only [w1, Int.toNat_natCast, Nat.zero_add, gR hx, gR hy, cells_encR, toList_encR, sh_encR, List.getD_cons_zero, c1, c2, setR, hlt, k1, k2, k3, k4, k5, decide_true, decide_false, Bool.and_true, br_tt, br_ff, Int.natCast_nonneg]
          exact go_end hp hgg hl
  · have hp : insInner c a (j, l) = some (.inr l) := by simp [insInner, ha]
    have k3 : ¬ ((j : Int) > (a : Int)) := by omega
    have hgg : g ((j : Int), encL l) = some (.inr (encL l)) := by
      rw [hg]
      simp only [k3, decide_false, br_ff]
    exact go_end hp hgg hl

/-- An exchange of two elements: the conditions and what is written, at the indexes 'u' (written first) and 'v'. -/
def xchK {T : Type} (N : Nat) (u v : Int) (xs : List AV) (δ : T) (κ : List AV → T) : T :=
  br (decide ((0 : Int) ≤ v) && decide (v < (N : Int))) (br (decide ((0 : Nat) + v.toNat < xs.length) && hasSh1 (Sh.list 3) ((xs.getD ((0 : Nat) + v.toNat) AV.top).cells.getD 0 AV.top))
  (br (decide ((0 : Int) ≤ u) && decide (u < (N : Int))) (br (decide ((0 : Nat) + u.toNat < xs.length) && hasSh1 (Sh.list 3) ((xs.getD ((0 : Nat) + u.toNat) AV.top).cells.getD 0 AV.top))
  (br (decide ((0 : Int) ≤ u) && decide (u < (N : Int))) (br (decide ((0 : Nat) + u.toNat < xs.length)) (br (decide ((0 : Int) ≤ v) && decide (v < (N : Int)))
  (br (decide ((0 : Nat) + v.toNat < (xs.set ((0 : Nat) + u.toNat) (AV.list 3 ((xs.getD ((0 : Nat) + v.toNat) AV.top).cells.getD 0 AV.top).toList)).length))
    (κ ((xs.set ((0 : Nat) + u.toNat) (AV.list 3 ((xs.getD ((0 : Nat) + v.toNat) AV.top).cells.getD 0 AV.top).toList)).set ((0 : Nat) + v.toNat) (AV.list 3 ((xs.getD ((0 : Nat) + u.toNat) AV.top).cells.getD 0 AV.top).toList)))
    δ) δ) δ) δ) δ) δ) δ) δ

theorem xch_eq {T : Type} {N : Nat} {l : List Row} (hl : l.length = N) {i j : Nat} {x y : Row} (hx : l[i]? = some x) (hy : l[j]? = some y) {δ : T} {κ : List AV → T} : xchK N (i : Int) (j : Int) (encL l) δ κ = κ (encL ((l.set i y).set j x)) := by
  have h1 := lt_of_get hx
  have h2 := lt_of_get hy
  have k1 : (i : Int) < (N : Int) := by omega
  have k2 : (j : Int) < (N : Int) := by omega
  have k4 : i < (encL l).length := by simpa using h1
  have k5 : j < (encL l).length := by simpa using h2
  unfold xchK
  simp only [Int.toNat_natCast, Nat.zero_add, gR hx, gR hy, cells_encR, toList_encR, sh_encR, List.getD_cons_zero, setR, k1, k2, k4, k5, decide_true, Bool.and_true, br_tt, Int.natCast_nonneg, List.length_map, List.length_set, h1, h2]

theorem sim_swr {N : Nat} (hN : N ≤ 2 ^ 60) {ok : Row → Prop} {g : Int × List AV → Option ((Int × List AV) ⊕ List AV)} (a b n : Nat) (ha : a ≤ 2 ^ 60) (hb : b ≤ 2 ^ 60) (hn : n ≤ 2 ^ 60)
    (hg : ∀ (i : Int) (xs : List AV), g (i, xs) = br (decide (i < (n : Int))) (xchK N (IntKind.i64.wrap ((a : Int) + i)) (IntKind.i64.wrap ((b : Int) + i)) xs none fun ys => some (.inl (IntKind.i64.wrap (i + 1), ys))) (some (.inr xs)))
    {l r : List Row} (hl : LOk N ok l) (hr : swr a b n l = some r) : Iter g ((0 : Int), encL l) = some (encL r) ∧ LOk N ok r := by
  refine iter_sim2 (I := fun s => LOk N ok s.2) (J := LOk N ok) (e := fun s => ((s.1 : Int), encL s.2)) (f := encL) ?_ (s := (0, l)) hl hr
  rintro ⟨i, l⟩ (hl : LOk N ok l)
  by_cases hi : i < n
  · cases hx : l[a + i]? with
    | none => exact go_none (by simp [swrStep, hi, hx])
    | some x =>
      cases hy : l[b + i]? with
      | none => exact go_none (by simp [swrStep, hi, hx, hy])
      | some y =>
        refine go_on (s0 := (i + 1, (l.set (a + i) y).set (b + i) x)) (by simp [swrStep, hi, hx, hy]) ?_ (hl.set2 (mem_of_get hx) (mem_of_get hy))
        rw [hg, show decide ((i : Int) < (n : Int)) = true by simp [hi], br_tt, w64 (n := a + i) (by omega) (by omega), w64 (n := b + i) (by omega) (by omega), xch_eq hl.len hx hy, w64 (n := i + 1) (by omega) (by omega)]
  · refine go_end (r0 := l) (by simp [swrStep, hi]) ?_ hl
    rw [hg, show decide ((i : Int) < (n : Int)) = false by simp; omega, br_ff]

theorem sim_up {N : Nat} (hN : N ≤ 2 ^ 60) {ok : Row → Prop} {g : Int × List AV → Option ((Int × List AV) ⊕ List AV)} (e i : Nat) (hi : i = e + 1) (he : e ≤ 2 ^ 60)
    (hg : ∀ (k : Int) (xs : List AV), g (k, xs) = br (decide (k < IntKind.i64.wrap ((i : Int) - 1))) (xchK N k (IntKind.i64.wrap (k + 1)) xs none fun ys => some (.inl (IntKind.i64.wrap (k + 1), ys))) (some (.inr xs)))
    {k : Nat} {l r : List Row} (hl : LOk N ok l) (hr : Iter (upStep e) (k, l) = some r) : Iter g ((k : Int), encL l) = some (encL r) ∧ LOk N ok r := by
  refine iter_sim2 (I := fun s => LOk N ok s.2) (J := LOk N ok) (e := fun s => ((s.1 : Int), encL s.2)) (f := encL) ?_ (s := (k, l)) hl hr
  rintro ⟨k, l⟩ (hl : LOk N ok l)
  have we : IntKind.i64.wrap ((i : Int) - 1) = (e : Int) := w64 (by omega) (by omega)
  by_cases hk : k < e
  · cases hx : l[k]? with
    | none => exact go_none (by simp [upStep, hk, hx])
    | some x =>
      cases hy : l[k + 1]? with
      | none => exact go_none (by simp [upStep, hk, hx, hy])
      | some y =>
        refine go_on (s0 := (k + 1, (l.set k y).set (k + 1) x)) (by simp [upStep, hk, hx, hy]) ?_ (hl.set2 (mem_of_get hx) (mem_of_get hy))
        rw [hg, we, show decide ((k : Int) < (e : Int)) = true by simp [hk], br_tt, w64 (n := k + 1) (by omega) (by omega), xch_eq hl.len hx hy]
  · refine go_end (r0 := l) (by simp [upStep, hk]) ?_ hl
    rw [hg, we, show decide ((k : Int) < (e : Int)) = false by simp; omega, br_ff]

theorem sim_down {N : Nat} (hN : N ≤ 2 ^ 60) {ok : Row → Prop} {g : Int × List AV → Option ((Int × List AV) ⊕ List AV)} (e : Nat)
    (hg : ∀ (k : Int) (xs : List AV), g (k, xs) = br (decide (k > (e : Int))) (xchK N k (IntKind.i64.wrap (k - 1)) xs none fun ys => some (.inl (IntKind.i64.wrap (k - 1), ys))) (some (.inr xs)))
    {k : Nat} {l r : List Row} (hl : LOk N ok l) (hr : Iter (downStep e) (k, l) = some r) : Iter g ((k : Int), encL l) = some (encL r) ∧ LOk N ok r := by
  refine iter_sim2 (I := fun s => LOk N ok s.2) (J := LOk N ok) (e := fun s => ((s.1 : Int), encL s.2)) (f := encL) ?_ (s := (k, l)) hl hr
  rintro ⟨k, l⟩ (hl : LOk N ok l)
  by_cases hk : e < k
  · cases hx : l[k]? with
    | none => exact go_none (by simp [downStep, hk, hx])
    | some x =>
      cases hy : l[k - 1]? with
      | none => exact go_none (by simp [downStep, hk, hx, hy])
      | some y =>
        have hlen := hl.len
        have := lt_of_get hx
        refine go_on (s0 := (k - 1, (l.set k y).set (k - 1) x)) (by simp [downStep, hk, hx, hy]) ?_ (hl.set2 (mem_of_get hx) (mem_of_get hy))
        rw [hg, show decide ((k : Int) > (e : Int)) = true by simp [hk], br_tt, w64 (x := (k : Int) - 1) (n := k - 1) (by omega) (by omega), xch_eq hl.len hx hy]
  · refine go_end (r0 := l) (by simp [downStep, hk]) ?_ hl
    rw [hg, show decide ((k : Int) > (e : Int)) = false by simp; omega, br_ff]

/-- A comparison of two elements. -/
def cmpK {T : Type} (N : Nat) (P : List AV → List AV → Bool) (u v : Int) (xs : List AV) (δ : T) (κ : List AV → List AV → T) : T :=
  br (decide ((0 : Int) ≤ u) && decide (u < (N : Int))) (br (decide ((0 : Nat) + u.toNat < xs.length) && hasSh1 (Sh.list 3) ((xs.getD ((0 : Nat) + u.toNat) AV.top).cells.getD 0 AV.top))
  (br (decide ((0 : Int) ≤ v) && decide (v < (N : Int))) (br (decide ((0 : Nat) + v.toNat < xs.length) && hasSh1 (Sh.list 3) ((xs.getD ((0 : Nat) + v.toNat) AV.top).cells.getD 0 AV.top))
  (br (P ((xs.getD ((0 : Nat) + u.toNat) AV.top).cells.getD 0 AV.top).toList ((xs.getD ((0 : Nat) + v.toNat) AV.top).cells.getD 0 AV.top).toList)
    (κ ((xs.getD ((0 : Nat) + u.toNat) AV.top).cells.getD 0 AV.top).toList ((xs.getD ((0 : Nat) + v.toNat) AV.top).cells.getD 0 AV.top).toList) δ) δ) δ) δ) δ

theorem cmpK_eq {T : Type} {N : Nat} {P : List AV → List AV → Bool} {l : List Row} (hl : l.length = N) {i j : Nat} {x y : Row} (hx : l[i]? = some x) (hy : l[j]? = some y) (hP : P (x.map encV) (y.map encV) = true) {δ : T} {κ : List AV → List AV → T} : cmpK N P (i : Int) (j : Int) (encL l) δ κ = κ (x.map encV) (y.map encV) := by
  have h1 := lt_of_get hx
  have h2 := lt_of_get hy
  have k1 : (i : Int) < (N : Int) := by omega
  have k2 : (j : Int) < (N : Int) := by omega
  have k4 : i < (encL l).length := by simpa using h1
  have k5 : j < (encL l).length := by simpa using h2
  unfold cmpK
  simp only [Int.toNat_natCast, Nat.zero_add, gR hx, gR hy, cells_encR, toList_encR, sh_encR, List.getD_cons_zero, hP, k1, k2, k4, k5, decide_true, Bool.and_true, br_tt, Int.natCast_nonneg]

def halfI (i j : Int) : Int := IntKind.i64.wrap ((IntKind.u64.wrap (IntKind.i64.wrap (i + j))).fdiv 2)

theorem sim_bs {N : Nat} (hN : N ≤ 2 ^ 60) {ok : Row → Prop} {c : Row → Row → Int} {P : List AV → List AV → Bool} {V : List AV → List AV → Int} (hc : ∀ x y, ok x → ok y → P (x.map encV) (y.map encV) = true ∧ V (x.map encV) (y.map encV) = c x y)
    {g : Int × Int × List AV → Option ((Int × Int × List AV) ⊕ (Int × List AV))} (u v : Nat → Nat) (U V' : Int → Int) (lo hi : Nat) (hhi : hi ≤ 2 ^ 61) (hu : ∀ h, lo ≤ h → h < hi → U (h : Int) = (u h : Int)) (hv : ∀ h, lo ≤ h → h < hi → V' (h : Int) = (v h : Int)) (t : Int → Bool)
    (hg : ∀ (i j : Int) (xs : List AV), g (i, j, xs) = br (decide (i < j)) (cmpK N P (U (halfI i j)) (V' (halfI i j)) xs none fun X Y => br (t (V X Y)) (some (.inl (IntKind.i64.wrap (halfI i j + 1), j, xs))) (some (.inl (i, halfI i j, xs)))) (some (.inr (i, xs))))
    {l : List Row} (hl : LOk N ok l) {i j r : Nat} (h1 : lo ≤ i) (h2 : j ≤ hi) (h3 : i ≤ hi) (hr : Iter (bsStep fun h => (get2 c l (u h) (v h)).map t) (i, j) = some r) : Iter g ((i : Int), (j : Int), encL l) = some ((r : Int), encL l) ∧ lo ≤ r ∧ r ≤ hi := by
  refine iter_sim2 (I := fun s => lo ≤ s.1 ∧ s.2 ≤ hi ∧ s.1 ≤ hi) (J := fun r => lo ≤ r ∧ r ≤ hi) (e := fun (s : Nat × Nat) => ((s.1 : Int), (s.2 : Int), encL l)) (f := fun (r : Nat) => ((r : Int), encL l)) ?_ (s := (i, j)) ⟨h1, h2, h3⟩ hr
  rintro ⟨i, j⟩ ⟨h1, h2, h3⟩
  dsimp only at h1 h2 h3
  by_cases hij : i < j
  · have hh : halfI (i : Int) (j : Int) = (((i + j) / 2 : Nat) : Int) := half64 (by omega)
    have b1 : lo ≤ (i + j) / 2 := by omega
    have b2 : (i + j) / 2 < hi := by omega
    have hdec : decide ((i : Int) < (j : Int)) = true := by simp [hij]
    cases hx : l[u ((i + j) / 2)]? with
    | none => exact go_none (by simp [bsStep, hij, get2, hx])
    | some x =>
      cases hy : l[v ((i + j) / 2)]? with
      | none => exact go_none (by simp [bsStep, hij, get2, hx, hy])
      | some y =>
        obtain ⟨c1, c2⟩ := hc x y (hl.ok _ (mem_of_get hx)) (hl.ok _ (mem_of_get hy))
        have hgg := hg (i : Int) (j : Int) (encL l)
        rw [hdec, br_tt, hh, hu _ b1 b2, hv _ b1 b2, cmpK_eq hl.len hx hy c1, c2] at hgg
        cases ht : t (c x y) with
        | true =>
          rw [ht, br_tt, w64 (n := (i + j) / 2 + 1) (by omega) (by omega)] at hgg
          exact go_on (s0 := ((i + j) / 2 + 1, j)) (by simp [bsStep, hij, get2, hx, hy, ht]) hgg ⟨by dsimp only; omega, h2, by dsimp only; omega⟩
        | false =>
          rw [ht, br_ff] at hgg
          exact go_on (s0 := (i, (i + j) / 2)) (by simp [bsStep, hij, get2, hx, hy, ht]) hgg ⟨h1, by dsimp only; omega, h3⟩
  · have hdec : decide ((i : Int) < (j : Int)) = false := by simp; omega
    refine go_end (r0 := i) (by simp [bsStep, hij]) ?_ ⟨h1, h3⟩
    rw [hg, hdec, br_ff]

theorem sim_rot {N : Nat} (hN : N ≤ 2 ^ 60) {ok : Row → Prop} {SW : Int → Int → Int → List AV → Option (List AV)} (hSW : ∀ (a b n : Nat) (l r : List Row), a ≤ 2 ^ 60 → b ≤ 2 ^ 60 → n ≤ 2 ^ 60 → LOk N ok l → swr a b n l = some r → SW a b n (encL l) = some (encL r) ∧ LOk N ok r)
    {g : Int × Int × List AV → Option ((Int × Int × List AV) ⊕ (Int × List AV))} (m : Nat) (hm : m ≤ N)
    (hg : ∀ (i j : Int) (xs : List AV), g (i, j, xs) = br (i != j) (br (decide (i > j)) (br (SW (IntKind.i64.wrap ((m : Int) - i)) m j xs).isSome (some (.inl (IntKind.i64.wrap (i - j), j, (SW (IntKind.i64.wrap ((m : Int) - i)) m j xs).getD []))) none)
      (br (SW (IntKind.i64.wrap ((m : Int) - i)) (IntKind.i64.wrap (IntKind.i64.wrap ((m : Int) + j) - i)) i xs).isSome (some (.inl (i, IntKind.i64.wrap (j - i), (SW (IntKind.i64.wrap ((m : Int) - i)) (IntKind.i64.wrap (IntKind.i64.wrap ((m : Int) + j) - i)) i xs).getD []))) none)) (some (.inr (i, xs))))
    {i j : Nat} {l l' : List Row} {i' : Nat} (hi : i ≤ m) (hj : m + j ≤ N) (hl : LOk N ok l) (hr : Iter (rotStep m) (i, j, l) = some (i', l')) : Iter g ((i : Int), (j : Int), encL l) = some ((i' : Int), encL l') ∧ i' ≤ m ∧ LOk N ok l' := by
  refine iter_sim2 (I := fun s => s.1 ≤ m ∧ m + s.2.1 ≤ N ∧ LOk N ok s.2.2) (J := fun r => r.1 ≤ m ∧ LOk N ok r.2) (e := fun (s : Nat × Nat × List Row) => ((s.1 : Int), (s.2.1 : Int), encL s.2.2)) (f := fun (r : Nat × List Row) => ((r.1 : Int), encL r.2)) ?_ (s := (i, j, l)) ⟨hi, hj, hl⟩ hr
  rintro ⟨i, j, l⟩ ⟨hi, hj, hl⟩
  dsimp only at hi hj hl
  by_cases h1 : i = j
  · subst h1
    refine go_end (r0 := (i, l)) (by simp [rotStep]) ?_ ⟨hi, hl⟩
    rw [hg]; simp [br_ff]
  · have d1 : ((i : Int) != (j : Int)) = true := by simp; omega
    have w1 : IntKind.i64.wrap ((m : Int) - (i : Int)) = ((m - i : Nat) : Int) := w64 (by omega) (by omega)
    by_cases h2 : j < i
    · cases hs : swr (m - i) m j l with
      | none => exact go_none (by simp [rotStep, h1, h2, hs])
      | some l1 =>
        obtain ⟨e1, e2⟩ := hSW (m - i) m j l l1 (by omega) (by omega) (by omega) hl hs
        refine go_on (s0 := (i - j, j, l1)) (by simp [rotStep, h1, h2, hs]) ?_ ⟨by dsimp only; omega, hj, e2⟩
        rw [hg, d1, br_tt, show decide ((i : Int) > (j : Int)) = true by simp [h2], br_tt, w1, e1, w64 (x := (i : Int) - (j : Int)) (n := i - j) (by omega) (by omega)]
        rfl
    · cases hs : swr (m - i) (m + j - i) i l with
      | none => exact go_none (by simp [rotStep, h1, h2, hs])
      | some l1 =>
        obtain ⟨e1, e2⟩ := hSW (m - i) (m + j - i) i l l1 (by omega) (by omega) (by omega) hl hs
        refine go_on (s0 := (i, j - i, l1)) (by simp [rotStep, h1, h2, hs]) ?_ ⟨hi, by dsimp only; omega, e2⟩
        rw [hg, d1, br_tt, show decide ((i : Int) > (j : Int)) = false by simp; omega, br_ff, w1, w64 (x := (m : Int) + (j : Int)) (n := m + j) (by omega) (by omega), w64 (x := ((m + j : Nat) : Int) - (i : Int)) (n := m + j - i) (by omega) (by omega), e1, w64 (x := (j : Int) - (i : Int)) (n := j - i) (by omega) (by omega)]
        rfl

theorem sim_insO {N : Nat} (hN : N ≤ 2 ^ 60) {ok : Row → Prop} {c : Row → Row → Int} (a b : Nat) (hb : b ≤ N) {gi : Int → Int × List AV → Option ((Int × List AV) ⊕ List AV)}
    (hi : ∀ (i : Nat) (l r : List Row), LOk N ok l → Iter (insInner c a) (i, l) = some r → Iter (gi i) ((i : Int), encL l) = some (encL r) ∧ LOk N ok r)
    {g : Int × List AV → Option ((Int × List AV) ⊕ List AV)}
    (hg : ∀ (i : Int) (xs : List AV), g (i, xs) = br (decide (i < (b : Int))) (br (Iter (gi i) (i, xs)).isSome (some (.inl (IntKind.i64.wrap (i + 1), (Iter (gi i) (i, xs)).getD []))) none) (some (.inr xs)))
    {i : Nat} {l r : List Row} (hl : LOk N ok l) (hr : Iter (insStep c a b) (i, l) = some r) : Iter g ((i : Int), encL l) = some (encL r) ∧ LOk N ok r := by
  refine iter_sim2 (I := fun s => LOk N ok s.2) (J := LOk N ok) (e := fun s => ((s.1 : Int), encL s.2)) (f := encL) ?_ (s := (i, l)) hl hr
  rintro ⟨i, l⟩ (hl : LOk N ok l)
  by_cases h : i < b
  · cases hs : Iter (insInner c a) (i, l) with
    | none => exact go_none (by simp [insStep, h, hs])
    | some l1 =>
      obtain ⟨e1, e2⟩ := hi i l l1 hl hs
      refine go_on (s0 := (i + 1, l1)) (by simp [insStep, h, hs]) ?_ e2
      rw [hg, show decide ((i : Int) < (b : Int)) = true by simp [h], br_tt, e1, w64 (x := (i : Int) + 1) (n := i + 1) (by omega) (by omega)]
      rfl
  · refine go_end (r0 := l) (by simp [insStep, h]) ?_ hl
    rw [hg, show decide ((i : Int) < (b : Int)) = false by simp; omega, br_ff]

/-- The two passes of the sort: a call on a part, then the next part. -/
theorem sim_pass {N : Nat} (hN : N ≤ 2 ^ 60) {ok : Row → Prop} (w : Nat) (hw : w ≤ 2 ^ 61) {p : Nat × Nat × List Row → Option ((Nat × Nat × List Row) ⊕ (Nat × List Row))} {F : Nat → Nat → List Row → Option (List Row)} (hp1 : ∀ a b l l', b ≤ N → F a b l = some l' → p (a, b, l) = some (.inl (b, b + w, l'))) (hp2 : ∀ a b l, b ≤ N → F a b l = none → p (a, b, l) = none) (hp3 : ∀ a b l, ¬ b ≤ N → p (a, b, l) = some (.inr (a, l)))
    {G : Int → Int → List AV → Option (List AV)} (hF : ∀ (a b : Nat) (l r : List Row), a ≤ b → b = a + w → b ≤ N → LOk N ok l → F a b l = some r → G a b (encL l) = some (encL r) ∧ LOk N ok r)
    {g : Int × Int × List AV → Option ((Int × Int × List AV) ⊕ (Int × List AV))}
    (hg : ∀ (a b : Int) (xs : List AV), g (a, b, xs) = br (decide (b ≤ (N : Int))) (br (G a b xs).isSome (some (.inl (b, IntKind.i64.wrap (b + (w : Int)), (G a b xs).getD []))) none) (some (.inr (a, xs))))
    {l l' : List Row} {a a' : Nat} (hl : LOk N ok l) (hr : Iter p (a, a + w, l) = some (a', l')) (ha : a ≤ N) : Iter g ((a : Int), ((a + w : Nat) : Int), encL l) = some ((a' : Int), encL l') ∧ a' ≤ N ∧ N < a' + w ∧ LOk N ok l' := by
  refine iter_sim2 (I := fun s => s.1 ≤ N ∧ s.2.1 = s.1 + w ∧ LOk N ok s.2.2) (J := fun r => r.1 ≤ N ∧ N < r.1 + w ∧ LOk N ok r.2) (e := fun (s : Nat × Nat × List Row) => ((s.1 : Int), (s.2.1 : Int), encL s.2.2)) (f := fun (r : Nat × List Row) => ((r.1 : Int), encL r.2)) ?_ (s := (a, a + w, l)) ⟨ha, rfl, hl⟩ hr
  rintro ⟨a, b, l⟩ ⟨h1, h2, hl⟩
  dsimp only at h1 h2 hl
  by_cases h : b ≤ N
  · cases hs : F a b l with
    | none => exact go_none (hp2 _ _ _ h hs)
    | some l1 =>
      obtain ⟨e1, e2⟩ := hF a b l l1 (by omega) h2 h hl hs
      refine go_on (s0 := (b, b + w, l1)) (hp1 _ _ _ _ h hs) ?_ ⟨h, rfl, e2⟩
      rw [hg, show decide ((b : Int) ≤ (N : Int)) = true by simp [h], br_tt, e1, w64 (x := (b : Int) + (w : Int)) (n := b + w) (by omega) (by omega)]
      rfl
  · refine go_end (r0 := (a, l)) (hp3 _ _ _ h) ?_ ⟨h1, by dsimp only; omega, hl⟩
    rw [hg, show decide ((b : Int) ≤ (N : Int)) = false by simp; omega, br_ff]

end Go.Sim.M
