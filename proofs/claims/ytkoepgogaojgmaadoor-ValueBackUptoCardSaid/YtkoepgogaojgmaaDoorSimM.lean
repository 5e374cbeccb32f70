/- Regions: in the order of the text, and in whatever order the tape draws. -/
import Derived.Test.YtkoepgogaojgmaaDoorSimL
import Derived.Tactics
set_option linter.unusedVariables false
set_option linter.unusedSimpArgs false
set_option linter.unnecessarySimpa false
namespace Go.Sim
open Go.RowKit

/-- What a guard's operation has yielded: 'none': not known. -/
def ayield (ops : Array Oper) (ts : List AV) (j : Nat) : Option (Option Bool) :=
  match (ops[j]?).bind (·.dst) with
  | none => some none
  | some d => match ts[d]? with
    | none => some none
    | some (.bool b) => some (some b)
    | some (.tuple _) => some none
    | _ => none

def awanted (ops : Array Oper) (ts : List AV) (o : Oper) : Option Bool :=
  match o.guard with
  | none => some true
  | some (j, want) => match ayield ops ts j with
    | some y => some (y == some want)
    | none => none

/-- The operations of a region, one after the other. -/
inductive Path (Step : St → Oper → St → Prop) (ops : Array Oper) : List Oper → St → St → Prop where
  | nil (s : St) : Path Step ops [] s s
  | run {o : Oper} {rest : List Oper} {s s1 s2 : St} (hw : awanted ops s.tmps o = some true) (h : Step s o s1) (hr : Path Step ops rest s1 s2) : Path Step ops (o :: rest) s s2
  | skip {o : Oper} {rest : List Oper} {s s2 : St} (hw : awanted ops s.tmps o = some false) (hr : Path Step ops rest ⟨putT s.tmps o.dst (.tuple []), s.heap⟩ s2) : Path Step ops (o :: rest) s s2

def OpA (P : Program) (Inv : World → Prop) (s : St) (o : Oper) (s' : St) : Prop := OpF P Inv s o s' ∨ OpI P Inv s o s'

section
variable {P : Program} {Inv : World → Prop} {w0 w : World} {A0 A : Nat → Prop} {M : Nat → Option MB} {ops : Array Oper}

theorem wanted_of {ts : List AV} {a : Act} {o : Oper} {b : Bool} (hsz : a.tmps.size = ts.length) (hr : ∀ j want d, o.guard = some (j, want) → (ops[j]?).bind (·.dst) = some d → d < ts.length → Rel w A M (a.tmps.getD d undef) (ts.getD d .top)) (h : awanted ops ts o = some b) :
    Region.wanted o (yielded ops a.tmps) = b := by
  unfold awanted at h
  unfold Region.wanted
  split at h
  · rename_i hg
    simp only [Option.some.injEq] at h
    simp [hg, h]
  · rename_i j want hg
    simp only [hg]
    split at h
    case h_2 => simp at h
    rename_i y hy
    simp only [Option.some.injEq] at h
    rw [← h]
    congr 1
    unfold ayield at hy
    unfold yielded
    split at hy
    · rename_i hd
      simp only [Option.some.injEq] at hy
      rw [hd, ← hy]; rfl
    · rename_i d hd
      rw [hd]
      simp only [Option.bind_some]
      by_cases hlt : d < ts.length
      · have := hr j want d hg hd hlt
        have hlt' : d < a.tmps.size := by rw [hsz]; exact hlt
        rw [List.getElem?_eq_getElem hlt] at hy
        have e : ts.getD d .top = ts[d] := by simp [List.getD_eq_getElem?_getD, hlt]
        rw [e] at this
        have e2 : a.tmps[d]? = some (a.tmps.getD d undef) := by simp [hlt']
        rw [e2]
        split at hy
        · rename_i hq; simp at hq
        · rename_i b' hq
          simp only [Option.some.injEq] at hq hy
          rw [hq] at this
          rw [this.bool_inv, ← hy]
        · rename_i vs hq
          simp only [Option.some.injEq] at hq hy
          rw [hq] at this
          obtain ⟨us, hu, _⟩ := this.tuple_inv
          rw [hu, ← hy]
        · simp at hy
      · rw [List.getElem?_eq_none (Nat.le_of_not_lt hlt)] at hy
        simp only [Option.some.injEq] at hy
        rw [Array.getElem?_eq_none (by rw [hsz]; exact Nat.le_of_not_lt hlt), ← hy]

theorem SR.skip {s : St} {a : Act} (hs : SR w0 A0 w A M s a) (d : Option Tmp) : SR w0 A0 w A M ⟨putT s.tmps d (.tuple []), s.heap⟩ (a.put d undef) := by
  obtain ⟨p1, p2⟩ := rel_put (d := d) hs.size hs.tmps (Rel.tuple (w := w) (A := A) (M := M) #[] [] rfl (by simp))
  exact ⟨hs.base, hs.outer, p1, p2, hs.heap, by rw [put_defers]; exact hs.defers⟩

theorem opA_seq (hIo : InvOk Inv) (hI : Inv w0) {s s' : St} {o : Oper} {a : Act} (h : OpA P Inv s o s') (hs : SR w0 A0 w A M s a) {K : Act → World → Prop} {Q : Exit → Act → World → Prop} (hK : ∀ a' w', SOk w0 A0 s' a' w' → K a' w') : o.wp P a w K Q := by
  rcases h with h | h
  · exact opF_seq hIo hI h hs hK
  · exact opI_seq hIo hI h hs hK

theorem list_sound (hIo : InvOk Inv) (hI : Inv w0) {Q : Exit → Act → World → Prop} {l : List Oper} {s s' : St} (hp : Path (OpA P Inv) ops l s s') : ∀ {w : World} {A : Nat → Prop} {M : Nat → Option MB} {a : Act}, SR w0 A0 w A M s a → (∀ a' w', SOk w0 A0 s' a' w' → Q .normal a' w') → wpList P ops Q l a w := by
  induction hp with
  | nil s => intro w A M a hs hQ; exact hQ a w ⟨A, M, hs⟩
  | run hw h hr ih =>
    intro w A M a hs hQ
    have hwt := wanted_of (w := w) (A := A) (M := M) hs.size (fun j want d _ _ hlt => hs.tmps d hlt) hw
    unfold wpList
    rw [if_pos hwt]
    exact .inl (opA_seq hIo hI h hs fun a' w' ⟨A', M', hs'⟩ => ih hs' hQ)
  | skip hw hr ih =>
    intro w A M a hs hQ
    have hwt := wanted_of (w := w) (A := A) (M := M) hs.size (fun j want d _ _ hlt => hs.tmps d hlt) hw
    unfold wpList
    rw [if_neg (by rw [hwt]; simp)]
    exact ih (hs.skip _) hQ

/-- A region in the order of the text. -/
theorem region_seq (hIo : InvOk Inv) (hI : Inv w0) {Q : Exit → Act → World → Prop} {id : Nat} {s s' : St} {a : Act} (hp : Path (OpA P Inv) ops ops.toList s s') (hs : SR w0 A0 w A M s a) (hQ : ∀ a' w', SOk w0 A0 s' a' w' → Q .normal a' w') : (Code.region id ops false).wp P Q a w :=
  wp_region_list (list_sound hIo hI hp hs hQ)

/-! ### Whatever order is drawn -/

def edges (o : Oper) : List Nat := (o.after.toList.filter fun e => Region.binds .any e).map (·.on)

def dstOf (ops : Array Oper) (i : Nat) : Option Tmp := (ops[i]?).bind (·.dst)

/-- The first 'm' operations may come in any order that their edges allow, the others follow one by one. -/
def regOk (ops : Array Oper) (m : Nat) : Bool :=
  (List.range ops.size).all fun j =>
    match ops[j]? with
    | none => true
    | some o =>
      (edges o).all (fun i => decide (i < j)) &&
      (if j < m then
        (match o.dst with | some d => (List.range m).all fun i => i == j || dstOf ops i != some d | none => true) &&
        (o.looksAt ops).all fun t => (List.range m).all fun i => dstOf ops i != some t || (edges o).contains i
       else (List.range j).all fun i => (edges o).contains i)

theorem regOk_spec {m : Nat} (h : regOk ops m = true) {j : Nat} {o : Oper} (ho : ops[j]? = some o) :
    (∀ i, i ∈ edges o → i < j) ∧
    (j < m → (∀ d, o.dst = some d → ∀ i, i < m → dstOf ops i = some d → i = j) ∧ ∀ t, t ∈ o.looksAt ops → ∀ i, i < m → dstOf ops i = some t → i ∈ edges o) ∧
    (m ≤ j → ∀ i, i < j → i ∈ edges o) := by
  have hj : j < ops.size := by
    rcases Nat.lt_or_ge j ops.size with h' | h'
    · exact h'
    · rw [Array.getElem?_eq_none h'] at ho; simp at ho
  unfold regOk at h
  rw [List.all_eq_true] at h
  have := h j (List.mem_range.2 hj)
  simp only [ho, Bool.and_eq_true, List.all_eq_true, decide_eq_true_eq] at this
  obtain ⟨h1, h2⟩ := this
  refine ⟨h1, fun hjm => ?_, fun hmj i hi => ?_⟩
  · rw [if_pos hjm] at h2
    simp only [Bool.and_eq_true, List.all_eq_true, Bool.or_eq_true, List.mem_range, bne_iff_ne, ne_eq, List.contains_iff_mem] at h2
    obtain ⟨h3, h4⟩ := h2
    refine ⟨fun d hd i hi he => ?_, fun t ht i hi he => ?_⟩
    · rw [hd] at h3
      simp only [List.all_eq_true, List.mem_range, Bool.or_eq_true, beq_iff_eq, bne_iff_ne, ne_eq] at h3
      rcases h3 i hi with h | h
      · exact h
      · exact absurd he h
    · rcases h4 t ht i hi with h | h
      · exact absurd he h
      · exact h
  · rw [if_neg (by omega)] at h2
    simp only [List.all_eq_true, List.mem_range, List.contains_iff_mem] at h2
    exact h2 i hi

/-- The states along a path. -/
theorem path_states {Step : St → Oper → St → Prop} {l : List Oper} {s s' : St} (hp : Path Step ops l s s') :
    ∃ st : Nat → St, st 0 = s ∧ st l.length = s' ∧ ∀ j o, l[j]? = some o → (awanted ops (st j).tmps o = some true ∧ Step (st j) o (st (j + 1))) ∨ (awanted ops (st j).tmps o = some false ∧ st (j + 1) = ⟨putT (st j).tmps o.dst (.tuple []), (st j).heap⟩) := by
  induction hp with
  | nil s => exact ⟨fun _ => s, rfl, rfl, fun j o h => by simp at h⟩
  | @run o rest s s1 s2 hw h hr ih =>
    obtain ⟨st, h0, h1, h2⟩ := ih
    refine ⟨fun k => match k with | 0 => s | k + 1 => st k, rfl, h1, fun j o' ho' => ?_⟩
    cases j with
    | zero => simp only [List.getElem?_cons_zero, Option.some.injEq] at ho'; subst ho'; left; exact ⟨hw, by show Step s o (st 0); rw [h0]; exact h⟩
    | succ j => exact h2 j o' (by simpa using ho')
  | @skip o rest s s2 hw hr ih =>
    obtain ⟨st, h0, h1, h2⟩ := ih
    refine ⟨fun k => match k with | 0 => s | k + 1 => st k, rfl, h1, fun j o' ho' => ?_⟩
    cases j with
    | zero => simp only [List.getElem?_cons_zero, Option.some.injEq] at ho'; subst ho'; right; exact ⟨hw, h0⟩
    | succ j => exact h2 j o' (by simpa using ho')

theorem putT_getD_ne {ts : List AV} {d : Option Tmp} {x : AV} {t : Nat} (h : d ≠ some t) : (putT ts d x).getD t .top = ts.getD t .top := by
  cases d with
  | none => rfl
  | some d =>
    have hne : d ≠ t := fun e => h (by rw [e])
    simp [putT, List.getD_eq_getElem?_getD, List.getElem?_set_ne hne]

theorem putT_getD_eq {ts : List AV} {x : AV} {t : Nat} (h : t < ts.length) : (putT ts (some t) x).getD t .top = x := by
  simp [putT, List.getD_eq_getElem?_getD, h]

theorem putT_length {ts : List AV} {d : Option Tmp} {x : AV} : (putT ts d x).length = ts.length := by cases d <;> simp [putT]

theorem countP_lt {l : List Nat} {p q : Nat → Bool} (h : ∀ x, x ∈ l → p x = true → q x = true) {y : Nat} (hy : y ∈ l) (h1 : p y = false) (h2 : q y = true) : l.countP p < l.countP q := by
  induction l with
  | nil => simp at hy
  | cons x l ih =>
    have hle : l.countP p ≤ l.countP q := List.countP_mono_left fun z hz => h z (by simp [hz])
    rcases List.mem_cons.1 hy with rfl | hy'
    · simp only [List.countP_cons, h1, h2, if_true, Bool.false_eq_true, if_false]; omega
    · have := ih (fun z hz => h z (by simp [hz])) hy'
      simp only [List.countP_cons]
      have hx := h x (by simp)
      cases hp : p x <;> cases hq : q x <;> simp_all <;> omega

/-- Of the operations that have not come up the first may come up. -/
theorem ready_first {m : Nat} (hok : regOk ops m = true) {listed : Array Bool} (hsz : listed.size = ops.size) {j : Nat} (hj : j < ops.size) (hn : listed.getD j false = false) (hall : ∀ i, i < j → listed.getD i false = true) : j ∈ Region.ready .any ops listed := by
  rw [mem_ready]
  have hjl : j < listed.size := by omega
  refine ⟨by simpa [hjl] using hn, ops[j], by simp [hj], fun e he hb => ?_⟩
  have := (regOk_spec hok (j := j) (o := ops[j]) (by simp [hj])).1 e.on (List.mem_map.2 ⟨e, List.mem_filter.2 ⟨Array.mem_toList_iff.2 he, hb⟩, rfl⟩)
  exact hall _ this

theorem exists_first {n : Nat} {p : Nat → Bool} : ∀ k, k ≤ n → (∀ i, i < k → p i = true) → (∀ i, i < n → p i = true) ∨ ∃ j, j < n ∧ p j = false ∧ ∀ i, i < j → p i = true := by
  intro k hk h
  induction hd : n - k generalizing k with
  | zero => exact .inl fun i hi => h i (by omega)
  | succ d ih =>
    cases hp : p k with
    | false => exact .inr ⟨k, by omega, hp, h⟩
    | true => exact ih (k + 1) (by omega) (fun i hi => by rcases Nat.lt_or_eq_of_le (Nat.le_of_lt_succ hi) with h' | rfl; exact h i h'; exact hp) (by omega)

def unl (n : Nat) (listed : Array Bool) : Nat := (List.range n).countP fun i => !listed.getD i false

theorem unl_set {n : Nat} {listed : Array Bool} (hsz : listed.size = n) {j : Nat} (hj : j < n) (hn : listed.getD j false = false) : unl n (listed.setIfInBounds j true) < unl n listed := by
  refine countP_lt (fun x hx hp => ?_) (List.mem_range.2 hj) ?_ (by simp [hn])
  · by_cases hxj : j = x
    · subst hxj; have : j < listed.size := by omega
      simp [this] at hp
    · simpa [Array.getElem?_setIfInBounds_ne hxj] using hp
  · have : j < listed.size := by omega
    simp [this]

/-- The operations behind the first 'm', one by one. -/
theorem tail_sound (hIo : InvOk Inv) (hI : Inv w0) {Q : Exit → Act → World → Prop} {m : Nat} (hok : regOk ops m = true) {s2 : St} (hQ : ∀ a' w', SOk w0 A0 s2 a' w' → Q .normal a' w') :
    ∀ (fuel k : Nat) (listed : Array Bool) (s : St) (w : World) (A : Nat → Prop) (M : Nat → Option MB) (a : Act), m ≤ k → k ≤ ops.size → listed.size = ops.size → (∀ i, i < k → listed.getD i false = true) → (∀ i, k ≤ i → i < ops.size → listed.getD i false = false) →
      ops.size - k ≤ fuel → Path (OpA P Inv) ops (ops.toList.drop k) s s2 → SR w0 A0 w A M s a → wpAny P .any ops Q fuel listed a w := by
  intro fuel
  induction fuel with
  | zero =>
    intro k listed s w A M a hm hk hsz h1 h2 hf hp hs
    have hkn : k = ops.size := by omega
    subst hkn
    have hnil : ops.toList.drop ops.size = [] := List.drop_eq_nil_of_le (by simp)
    rw [hnil] at hp
    cases hp
    refine ⟨?_, hQ a w ⟨A, M, hs⟩⟩
    rw [List.eq_nil_iff_forall_not_mem]
    intro i hi
    obtain ⟨hu, o, ho, _⟩ := mem_ready.1 hi
    have hi' : i < ops.size := by
      rcases Nat.lt_or_ge i ops.size with h' | h'
      · exact h'
      · rw [Array.getElem?_eq_none h'] at ho; simp at ho
    have := h1 i hi'
    have hil : i < listed.size := by omega
    simp [hil] at hu this
    rw [this] at hu; simp at hu
  | succ fuel ih =>
    intro k listed s w A M a hm hk hsz h1 h2 hf hp hs
    by_cases hkn : k = ops.size
    · subst hkn
      have hnil : ops.toList.drop ops.size = [] := List.drop_eq_nil_of_le (by simp)
      rw [hnil] at hp
      cases hp
      refine ⟨fun _ => hQ a w ⟨A, M, hs⟩, fun i hi => ?_⟩
      exfalso
      obtain ⟨hu, o, ho, _⟩ := mem_ready.1 hi
      have hi' : i < ops.size := by
        rcases Nat.lt_or_ge i ops.size with h' | h'
        · exact h'
        · rw [Array.getElem?_eq_none h'] at ho; simp at ho
      have := h1 i hi'
      have hil : i < listed.size := by omega
      simp [hil] at hu this
      rw [this] at hu; simp at hu
    · have hklt : k < ops.size := by omega
      have hrdy := ready_first hok hsz hklt (h2 k (Nat.le_refl _) hklt) h1
      refine ⟨fun h => by rw [h] at hrdy; simp at hrdy, fun i hi => ?_⟩
      obtain ⟨hu, o, ho, hall⟩ := mem_ready.1 hi
      have hi' : i < ops.size := by
        rcases Nat.lt_or_ge i ops.size with h' | h'
        · exact h'
        · rw [Array.getElem?_eq_none h'] at ho; simp at ho
      have hil : i < listed.size := by omega
      have hik : i = k := by
        rcases Nat.lt_trichotomy i k with hlt | heq | hgt
        · have := h1 i hlt; simp [hil] at hu this; rw [this] at hu; simp at hu
        · exact heq
        · have hke := (regOk_spec hok ho).2.2 (by omega) k hgt
          obtain ⟨e, he, hek⟩ := List.mem_map.1 hke
          obtain ⟨he1, he2⟩ := List.mem_filter.1 he
          have := hall e (Array.mem_toList_iff.1 he1) he2
          rw [hek, h2 k (Nat.le_refl _) hklt] at this
          simp at this
      subst hik
      have hdrop : ops.toList.drop i = o :: ops.toList.drop (i + 1) := by
        rw [List.drop_eq_getElem_cons (by simpa using hi')]
        congr 1
        have : ops[i]? = some ops[i] := by simp [hi']
        rw [this] at ho
        simpa using ho
      rw [hdrop] at hp
      have hnext : ∀ s1 a1 w1, Path (OpA P Inv) ops (ops.toList.drop (i + 1)) s1 s2 → SOk w0 A0 s1 a1 w1 → wpAny P .any ops Q fuel (listed.setIfInBounds i true) a1 w1 := by
        intro s1 a1 w1 hp1 ⟨A1, M1, hs1⟩
        refine ih (i + 1) (listed.setIfInBounds i true) s1 w1 A1 M1 a1 (by omega) (by omega) (by simp [hsz]) (fun x hx => ?_) (fun x hx hx' => ?_) (by omega) hp1 hs1
        · by_cases hxi : i = x
          · subst hxi; simp [hil]
          · have := h1 x (by omega); simpa [Array.getElem?_setIfInBounds_ne hxi] using this
        · have hxi : i ≠ x := by omega
          have := h2 x (by omega) hx'
          simpa [Array.getElem?_setIfInBounds_ne hxi] using this
      unfold wpOp
      simp only [ho]
      cases hp with
      | run hw h hr =>
        have hwt := wanted_of (w := w) (A := A) (M := M) hs.size (fun j want d _ _ hlt => hs.tmps d hlt) hw
        rw [if_pos hwt]
        exact .inl (opA_seq hIo hI h hs fun a' w' hs' => hnext _ a' w' hr hs')
      | skip hw hr =>
        have hwt := wanted_of (w := w) (A := A) (M := M) hs.size (fun j want d _ _ hlt => hs.tmps d hlt) hw
        rw [if_neg (by rw [hwt]; simp)]
        exact hnext _ _ w hr ⟨A, M, hs.skip _⟩

end
end Go.Sim
