/- A region whose order is drawn from the tape: its first operations in whatever order. -/
import Derived.Test.YtkoepgogaojgmaaDoorSimM
set_option linter.unusedVariables false
set_option linter.unusedSimpArgs false
set_option linter.unnecessarySimpa false
namespace Go.Sim
open Go.RowKit

section
variable {P : Program} {Inv : World → Prop} {w0 w : World} {A0 A : Nat → Prop} {M : Nat → Option MB} {ops : Array Oper}

/-- What holds while the first 'm' operations come up: of those that have come up the temporaries hold what they hold in the end. -/
structure DInv (ops : Array Oper) (m : Nat) (st : Nat → St) (w0 : World) (A0 : Nat → Prop) (listed : Array Bool) (w : World) (A : Nat → Prop) (M : Nat → Option MB) (a : Act) : Prop where
  base : Below w0.heap.size w0 w
  outer : ∀ b, b < w0.heap.size → (A b ↔ A0 b)
  size : a.tmps.size = (st m).tmps.length
  tmps : ∀ t, t < (st m).tmps.length → (∀ i, i < m → dstOf ops i = some t → listed.getD i false = true) → Rel w A M (a.tmps.getD t undef) ((st m).tmps.getD t .top)
  heap : HR w A M w0.heap.size (st m).heap
  ids : ∀ id mm, M id = some mm → id < (st 0).heap.length ∨ ∃ i, i < m ∧ listed.getD i false = true ∧ id = (st i).heap.length ∧ (st i).heap.length < (st (i + 1)).heap.length
  defers : a.defers = []

theorem looks_operand {o : Oper} {t : Tmp} (h : Operand.tmp t ∈ o.op.operands.toList) : t ∈ o.looksAt ops := by
  unfold Oper.looksAt
  exact List.mem_append.2 (.inl (List.mem_filterMap.2 ⟨.tmp t, h, rfl⟩))

theorem looks_guard {o : Oper} {j : Nat} {want : Bool} {d : Tmp} (hg : o.guard = some (j, want)) (hd : (ops[j]?).bind (·.dst) = some d) : d ∈ o.looksAt ops := by
  unfold Oper.looksAt
  refine List.mem_append.2 (.inr ?_)
  simp [hg, hd]

/-- A region whose order the tape draws. -/
theorem region_draw (hmx : P.follows .mixedOrders = true) (hIo : InvOk Inv) (hI : Inv w0) {Q : Exit → Act → World → Prop} {id m : Nat} (hok : regOk ops m = true) (hmn : m ≤ ops.size) {s s1 s2 : St} {a : Act}
    (hF : Path (OpF P Inv) ops (ops.toList.take m) s s1) (hT : Path (OpA P Inv) ops (ops.toList.drop m) s1 s2) (hs : SR w0 A0 w A M s a) (hQ : ∀ a' w', SOk w0 A0 s2 a' w' → Q .normal a' w') : (Code.region id ops true).wp P Q a w := by
  obtain ⟨st, hst0, hstm, hstep⟩ := path_states hF
  have hlm : (ops.toList.take m).length = m := by simp; omega
  rw [hlm] at hstm
  have hstep' : ∀ j o, j < m → ops[j]? = some o → (awanted ops (st j).tmps o = some true ∧ OpF P Inv (st j) o (st (j + 1))) ∨ (awanted ops (st j).tmps o = some false ∧ st (j + 1) = ⟨putT (st j).tmps o.dst (.tuple []), (st j).heap⟩) := by
    intro j o hj ho
    refine hstep j o ?_
    rw [List.getElem?_take, if_pos hj]
    simpa using ho
  have hop : ∀ j, j < m → ∃ o, ops[j]? = some o := fun j hj => ⟨ops[j], by simp [show j < ops.size by omega]⟩
  have hsub1 : ∀ j, j < m → HSub (st j).heap (st (j + 1)).heap := by
    intro j hj
    obtain ⟨o, ho⟩ := hop j hj
    rcases hstep' j o hj ho with ⟨_, h⟩ | ⟨_, h⟩
    · exact h.sub
    · rw [h]; exact HSub.refl _
  have hsub : ∀ k j, j + k ≤ m → HSub (st j).heap (st (j + k)).heap := by
    intro k
    induction k with
    | zero => intro j _; exact HSub.refl _
    | succ k ih => intro j hj; exact (ih j (by omega)).trans (hsub1 (j + k) (by omega))
  have hsubm : ∀ j, j ≤ m → HSub (st j).heap (st m).heap := fun j hj => by have := hsub (m - j) j (by omega); rwa [show j + (m - j) = m by omega] at this
  have hlen_of : ∀ h H : List Box, HSub h H → h.length ≤ H.length := by
    intro h H hs
    rcases Nat.lt_or_ge H.length h.length with hlt | hge
    · obtain ⟨f, hf, _⟩ := hs H.length h[H.length] (by simp [hlt])
      simp at hf
    · exact hge
  have hlen : ∀ i j, i ≤ j → j ≤ m → (st i).heap.length ≤ (st j).heap.length := fun i j hij hj => by
    have := hsub (j - i) i (by omega)
    rw [show i + (j - i) = j by omega] at this
    exact hlen_of _ _ this
  have htl1 : ∀ j, j < m → ∃ o x, ops[j]? = some o ∧ (st (j + 1)).tmps = putT (st j).tmps o.dst x := by
    intro j hj
    obtain ⟨o, ho⟩ := hop j hj
    rcases hstep' j o hj ho with ⟨_, h⟩ | ⟨_, h⟩
    · rcases h with ⟨x, nb, _, h⟩ | ⟨c, g, args, args', r, _, _, _, _, h⟩
      · exact ⟨o, x, ho, by rw [h]⟩
      · exact ⟨o, r, ho, by rw [h]⟩
    · exact ⟨o, _, ho, by rw [h]⟩
  have htlen : ∀ k j, j + k ≤ m → (st (j + k)).tmps.length = (st j).tmps.length := by
    intro k
    induction k with
    | zero => intro j _; rfl
    | succ k ih =>
      intro j hj
      obtain ⟨o, x, _, h⟩ := htl1 (j + k) (by omega)
      rw [← Nat.add_assoc, h, putT_length, ih j (by omega)]
  have htlenm : ∀ j, j ≤ m → (st m).tmps.length = (st j).tmps.length := fun j hj => by have := htlen (m - j) j (by omega); rwa [show j + (m - j) = m by omega] at this
  have hsame : ∀ k j t, j + k ≤ m → (∀ i, j ≤ i → i < j + k → dstOf ops i ≠ some t) → (st (j + k)).tmps.getD t .top = (st j).tmps.getD t .top := by
    intro k
    induction k with
    | zero => intro j t _ _; rfl
    | succ k ih =>
      intro j t hj hno
      obtain ⟨o, x, ho, h⟩ := htl1 (j + k) (by omega)
      have hne : o.dst ≠ some t := by
        have := hno (j + k) (by omega) (by omega)
        simpa [dstOf, ho] using this
      rw [← Nat.add_assoc, h, putT_getD_ne hne]
      exact ih j t (by omega) fun i hi hi' => hno i hi (by omega)
  have hsamem : ∀ j t, j ≤ m → (∀ i, j ≤ i → i < m → dstOf ops i ≠ some t) → (st m).tmps.getD t .top = (st j).tmps.getD t .top := fun j t hj hno => by
    have := hsame (m - j) j t (by omega) (fun i hi hi' => hno i hi (by omega))
    rwa [show j + (m - j) = m by omega] at this
  refine wp_region_any hmx ?_
  have hszr : (Array.replicate ops.size false).size = ops.size := by simp
  -- the phase of the first m
  have phase : ∀ (fuel : Nat) (listed : Array Bool) (w : World) (A : Nat → Prop) (M : Nat → Option MB) (a : Act), listed.size = ops.size → unl m listed + (ops.size - m) ≤ fuel → (∀ i, m ≤ i → i < ops.size → listed.getD i false = false) → DInv ops m st w0 A0 listed w A M a → wpAny P .any ops Q fuel listed a w := by
    intro fuel
    induction fuel with
    | zero =>
      intro listed w A M a hsz hf hrest hd
      have hm : ops.size - m = 0 := by omega
      have hall : ∀ i, i < m → listed.getD i false = true := by
        intro i hi
        cases hl : listed.getD i false with
        | true => rfl
        | false =>
          have : 0 < unl m listed := List.countP_pos_iff.2 ⟨i, List.mem_range.2 hi, by simp only [hl]; rfl⟩
          omega
      refine tail_sound hIo hI hok hQ 0 m listed s1 w A M a (Nat.le_refl _) hmn hsz hall (fun i h1 h2 => by omega) (by omega) hT ?_
      rw [← hstm]
      exact ⟨hd.base, hd.outer, hd.size, fun t ht => hd.tmps t ht fun i hi _ => hall i hi, hd.heap, hd.defers⟩
    | succ fuel ih =>
      intro listed w A M a hsz hf hrest hd
      rcases exists_first (n := m) (p := fun i => listed.getD i false) 0 (Nat.zero_le _) (fun i hi => by omega) with hall | ⟨j0, hj0, hn0, hbef⟩
      · refine tail_sound hIo hI hok hQ (fuel + 1) m listed s1 w A M a (Nat.le_refl _) hmn hsz hall hrest (by omega) hT ?_
        rw [← hstm]
        exact ⟨hd.base, hd.outer, hd.size, fun t ht => hd.tmps t ht fun i hi _ => hall i hi, hd.heap, hd.defers⟩
      have hrdy := ready_first hok hsz (show j0 < ops.size by omega) hn0 hbef
      refine ⟨fun h => by rw [h] at hrdy; simp at hrdy, fun j hj => ?_⟩
      obtain ⟨hu, o, ho, hall⟩ := mem_ready.1 hj
      have hjs : j < ops.size := by
        rcases Nat.lt_or_ge j ops.size with h' | h'
        · exact h'
        · rw [Array.getElem?_eq_none h'] at ho; simp at ho
      have hjl : j < listed.size := by omega
      have hun : listed.getD j false = false := by simpa [hjl] using hu
      obtain ⟨hE1, hE2, hE3⟩ := regOk_spec hok ho
      have hedge : ∀ i, i ∈ edges o → listed.getD i false = true := by
        intro i hi
        obtain ⟨e, he, hek⟩ := List.mem_map.1 hi
        obtain ⟨he1, he2⟩ := List.mem_filter.1 he
        have := hall e (Array.mem_toList_iff.1 he1) he2
        rwa [hek] at this
      have hjm : j < m := by
        rcases Nat.lt_or_ge j m with h' | h'
        · exact h'
        · have := hedge j0 (hE3 h' j0 (by omega))
          have hn0' : listed.getD j0 false = false := hn0
          rw [hn0'] at this; simp at this
      obtain ⟨hsingle, hlook⟩ := hE2 hjm
      -- what the operation looks at
      have hseen : ∀ t, t ∈ o.looksAt ops → t < (st m).tmps.length → Rel w A M (a.tmps.getD t undef) ((st j).tmps.getD t .top) := by
        intro t ht htl
        have h1 := hd.tmps t htl fun i hi he => hedge i (hlook t ht i hi he)
        rwa [hsamem j t (by omega) (fun i hi hi' he => by have := hE1 i (hlook t ht i hi' he); omega)] at h1
      have hwsz : a.tmps.size = (st j).tmps.length := by rw [hd.size, htlenm j (by omega)]
      have hlist' : ∀ i, (listed.setIfInBounds j true).getD i false = true ↔ (i = j ∨ listed.getD i false = true) := by
        intro i
        by_cases hij : j = i
        · subst hij; simp [hjl]
        · have : ¬ i = j := fun e => hij e.symm
          simp [Array.getElem?_setIfInBounds_ne hij, this]
      have hfuel' : unl m (listed.setIfInBounds j true) + (ops.size - m) ≤ fuel := by
        have : unl m (listed.setIfInBounds j true) < unl m listed := by
          refine countP_lt (fun x hx hp => ?_) (List.mem_range.2 hjm) ?_ (by simp only [hun]; rfl)
          · by_cases hxj : j = x
            · subst hxj; simp [hjl] at hp
            · simpa [Array.getElem?_setIfInBounds_ne hxj] using hp
          · simp [hjl]
        omega
      have hrest' : ∀ i, m ≤ i → i < ops.size → (listed.setIfInBounds j true).getD i false = false := by
        intro i h1 h2
        have hij : j ≠ i := by omega
        have := hrest i h1 h2
        simpa [Array.getElem?_setIfInBounds_ne hij] using this
      -- the temporaries behind it
      have htm : ∀ (x : AV) (v : Value) (w' : World) (A' : Nat → Prop) (M' : Nat → Option MB), (st (j + 1)).tmps = putT (st j).tmps o.dst x → Rel w' A' M' v x → (∀ t, t < (st m).tmps.length → (∀ i, i < m → dstOf ops i = some t → listed.getD i false = true) → Rel w' A' M' (a.tmps.getD t undef) ((st m).tmps.getD t .top)) →
          ∀ t, t < (st m).tmps.length → (∀ i, i < m → dstOf ops i = some t → (listed.setIfInBounds j true).getD i false = true) → Rel w' A' M' ((a.put o.dst v).tmps.getD t undef) ((st m).tmps.getD t .top) := by
        intro x v w' A' M' hx hv hold t htl hw
        by_cases hdt : o.dst = some t
        · have e1 : (a.put o.dst v).tmps.getD t undef = v := by
            have : t < a.tmps.size := by rw [hd.size]; exact htl
            simp [Act.put, hdt, this]
          have e2 : (st m).tmps.getD t .top = x := by
            rw [hsamem (j + 1) t (by omega) (fun i hi hi' he => by have := hsingle t hdt i hi' he; omega), hx, hdt]
            exact putT_getD_eq (by rw [← htlenm j (by omega)]; exact htl)
          rw [e1, e2]; exact hv
        · have e1 : (a.put o.dst v).tmps.getD t undef = a.tmps.getD t undef := by
            cases hdd : o.dst with
            | none => rfl
            | some d =>
              have hne : d ≠ t := fun e => hdt (by rw [hdd, e])
              simp [Act.put, Array.getElem?_setIfInBounds_ne hne]
          rw [e1]
          refine hold t htl fun i hi he => ?_
          rcases (hlist' i).1 (hw i hi he) with rfl | h
          · exact absurd (by simpa [dstOf, ho] using he) hdt
          · exact h
      unfold wpOp
      simp only [ho]
      rcases hstep' j o hjm ho with ⟨hw, h⟩ | ⟨hw, h⟩
      · have hwt := wanted_of (w := w) (A := A) (M := M) hwsz (fun jg want d hg hdd hlt => hseen d (looks_guard hg hdd) (by rw [htlenm j (by omega)]; exact hlt)) hw
        rw [if_pos hwt]
        left
        obtain ⟨x, hx, hwp⟩ := opF_core (w := w) (A := A) (M := M) (B := w0.heap.size) (a := a) (K := wpAny P .any ops Q fuel (listed.setIfInBounds j true)) (Q := Q) h (hsubm (j + 1) (by omega)) hd.heap hd.base.size (hIo.below _ _ hI hd.base)
          (fun y hy => by
            cases y with
            | tmp t =>
              by_cases htl : t < (st m).tmps.length
              · exact hseen t (looks_operand hy) htl
              · have : (st j).eval (.tmp t) = .top := by
                  simp only [St.eval, List.getD_eq_getElem?_getD]
                  rw [List.getElem?_eq_none (by rw [← htlenm j (by omega)]; exact Nat.le_of_not_lt htl)]; rfl
                rw [this]; exact .top _
            | const v => exact rel_avOf w A M v
            | global g => exact .gptr g
            | func f => exact .func f #[] [] rfl (by simp))
          (fun hgrow => by
            cases hmn' : M (st j).heap.length with
            | none => rfl
            | some mm =>
              exfalso
              rcases hd.ids _ mm hmn' with h1 | ⟨i, him, hil, he, hg⟩
              · have := hlen 0 j (Nat.zero_le _) (by omega); omega
              · rcases Nat.lt_trichotomy i j with hlt | heq | hgt
                · have := hlen (i + 1) j (by omega) (by omega); omega
                · subst heq; rw [hun] at hil; simp at hil
                · have := hlen (j + 1) i (by omega) (by omega); omega)
        refine hwp fun v w' A' M' hbel hext hA hM hR' hr => ih (listed.setIfInBounds j true) w' A' M' (a.put o.dst v) (by simp [hsz]) hfuel' hrest' ?_
        refine ⟨hd.base.trans (hbel.mono hd.base.size), fun b hb => (hA b (Nat.lt_of_lt_of_le hb hd.base.size)).trans (hd.outer b hb), ?_, ?_, hR', fun id mm hmm => ?_, by rw [put_defers]; exact hd.defers⟩
        · cases hdd : o.dst with
          | none => exact hd.size
          | some d => simp [Act.put, hd.size]
        · exact htm x v w' A' M' hx hr fun t htl hw' => (hd.tmps t htl hw').mono (fun b hb _ => hbel.block b hb) hbel.size (fun b hb hA' => (hA b hb).1 hA') hext
        · rcases hM id mm hmm with ⟨m0, hm0⟩ | ⟨he, hg⟩
          · rcases hd.ids id m0 hm0 with h1 | ⟨i, him, hil, he, hg⟩
            · exact .inl h1
            · exact .inr ⟨i, him, (hlist' i).2 (.inr hil), he, hg⟩
          · exact .inr ⟨j, hjm, (hlist' j).2 (.inl rfl), he, hg⟩
      · have hwt := wanted_of (w := w) (A := A) (M := M) hwsz (fun jg want d hg hdd hlt => hseen d (looks_guard hg hdd) (by rw [htlenm j (by omega)]; exact hlt)) hw
        rw [if_neg (by rw [hwt]; simp)]
        refine ih (listed.setIfInBounds j true) w A M (a.put o.dst undef) (by simp [hsz]) hfuel' hrest' ?_
        refine ⟨hd.base, hd.outer, ?_, ?_, hd.heap, fun id mm hmm => ?_, by rw [put_defers]; exact hd.defers⟩
        · cases hdd : o.dst with
          | none => exact hd.size
          | some d => simp [Act.put, hd.size]
        · exact htm (.tuple []) undef w A M (by rw [h]) (.tuple #[] [] rfl (by simp)) hd.tmps
        · rcases hd.ids id mm hmm with h1 | ⟨i, him, hil, he, hg⟩
          · exact .inl h1
          · exact .inr ⟨i, him, (hlist' i).2 (.inr hil), he, hg⟩
  -- the beginning
  obtain ⟨A1, hs1⟩ := hs.refreeze (by rw [← hst0]; exact hsubm 0 (Nat.zero_le _) : HSub s.heap (st m).heap)
  have hlis : ∀ i, (Array.replicate ops.size false).getD i false = false := by
    intro i
    by_cases hi : i < ops.size <;> simp [hi]
  have hunl : unl m (Array.replicate ops.size false) ≤ m := by
    have := List.countP_le_length (l := List.range m) (p := fun i => !(Array.replicate ops.size false).getD i false)
    simpa [unl] using this
  refine phase ops.size (Array.replicate ops.size false) _ A1 M a hszr (by omega) (fun i _ _ => hlis i) ?_
  have hdrew : Below w.heap.size w { w with drawn := w.drawn + 1 } := ⟨rfl, rfl, rfl, Nat.le_refl _, fun _ _ => rfl⟩
  refine ⟨hs.base.trans ⟨rfl, rfl, rfl, Nat.le_refl _, fun _ _ => rfl⟩, hs1.outer, by rw [htlenm 0 (Nat.zero_le _), hst0]; exact hs.size, fun t htl hw => ?_, hs1.heap.grow hdrew, fun id mm hmm => ?_, hs.defers⟩
  · have hno : ∀ i, i < m → dstOf ops i ≠ some t := fun i hi he => by have := hw i hi he; rw [hlis i] at this; simp at this
    rw [hsamem 0 t (Nat.zero_le _) (fun i _ hi => hno i hi), hst0]
    rw [htlenm 0 (Nat.zero_le _), hst0] at htl
    exact (hs1.tmps t htl).grow hdrew
  · left
    rw [hst0]
    rcases Nat.lt_or_ge id s.heap.length with h' | h'
    · exact h'
    · rw [hs.heap.none_of_length h'] at hmm; simp at hmm

end
end Go.Sim
