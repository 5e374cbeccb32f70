/- One operation in a state: what the abstract state says holds of the model's. -/
import Derived.Test.YtkoepgogaojgmaaDoorSimK
set_option linter.unusedVariables false
set_option linter.unusedSimpArgs false
set_option linter.unnecessarySimpa false
namespace Go.Sim
open Go.RowKit

theorem mext_noBox (M : Nat → Option MB) : MExt noBox M := fun id m h => by simp [noBox] at h

theorem reach_in {h : List Box} : ∀ (n : Nat) (x y : AV) (id : Nat), resolve h n x = some y → id ∈ reach h n x → ∃ bx, h[id]? = some bx
  | 0, x, y, id, _, hid => by simp [reach] at hid
  | n + 1, x, y, id, hr, hid => by
    have listm : ∀ cs ds, mapO (resolve h n) cs = some ds → id ∈ cs.flatMap (reach h n) → ∃ bx, h[id]? = some bx := by
      intro cs ds hc hm
      obtain ⟨e1, e2⟩ := mapO_spec hc
      obtain ⟨a, ha, hi⟩ := List.mem_flatMap.1 hm
      obtain ⟨i, hi', rfl⟩ := mem_getD ha
      exact reach_in n _ _ id (e2 i hi') hi
    have mape : ∀ cs ds, mapE (resolve h n) cs = some ds → ¬ AV.pures cs = true → id ∈ (cs.flatMap fun (e : AV) => e.cells.flatMap (reach h n)) → ∃ bx, h[id]? = some bx := by
      intro cs ds hc hp hm
      unfold mapE at hc
      rw [if_neg hp] at hc
      obtain ⟨e1, e2⟩ := mapO_spec hc
      obtain ⟨a, ha, hi⟩ := List.mem_flatMap.1 hm
      obtain ⟨i, hi', rfl⟩ := mem_getD ha
      have h2 := e2 i hi'
      unfold resE at h2
      split at h2
      · rename_i cs' hcs'
        split at h2
        case h_2 => simp at h2
        rename_i zs hzs
        rw [hcs', cells_agg] at hi
        exact listm _ _ hzs hi
      · rename_i hne
        have hcell : (cs.getD i .top).cells = [cs.getD i .top] := by
          generalize cs.getD i .top = q at hne
          cases q <;> first | rfl | exact absurd rfl (hne _)
        rw [hcell] at hi
        exact reach_in n _ _ id h2 (by simpa using hi)
    unfold resolve at hr
    unfold reach at hid
    split at hr
    · rename_i hp; simp [hp] at hid
    rename_i hp
    simp only [hp, if_false] at hid
    split at hr
    · split at hr
      case h_2 => simp at hr
      rename_i ds hds
      exact listm _ _ hds hid
    · split at hr
      case h_2 => simp at hr
      rename_i ds hds
      exact listm _ _ hds hid
    · rename_i id' ver i j
      split at hr
      case h_2 => simp at hr
      rename_i bx hbx
      split at hr
      case h_2 => simp at hr
      rename_i ys hys
      have hb1 := (getBox_some hbx).1
      simp only [hb1] at hid
      rcases List.mem_cons.1 hid with rfl | hid
      · exact ⟨bx, hb1⟩
      · by_cases hpp : AV.pures bx.xs = true
        · simp [hpp] at hid
        · simp only [hpp, if_false] at hid; exact mape _ _ hys hpp hid
    · rename_i id' ver off len
      split at hr
      case h_2 => simp at hr
      rename_i bx hbx
      split at hr
      case h_2 => simp at hr
      rename_i ys hys
      have hb1 := (getBox_some hbx).1
      simp only [hb1] at hid
      rcases List.mem_cons.1 hid with rfl | hid
      · exact ⟨bx, hb1⟩
      · by_cases hpp : AV.pures ((bx.xs.drop off).take len) = true
        · simp [hpp] at hid
        · simp only [hpp, if_false] at hid; exact mape _ _ hys hpp hid
    · simp at hr

section
variable {P : Program} {Inv : World → Prop} {w : World} {A : Nat → Prop} {M : Nat → Option MB} {B : Nat} {H : List Box}

theorem callFunc_run {f : FuncId} (h : Enters P f) (args : Array Value) (w : World) : (callFunc f args).run P w = .ok (.enter f args) w := by
  obtain ⟨fn, h1, h2, h3⟩ := h
  simp only [callFunc, Sem.run_bind, run_program, Result.andThen_ok, h1, h2, h3, Bool.false_eq_true, if_false, Sem.run_pure]

/-- A call of a function value: the run comes to the callee's door. -/
theorem call_run {o : Oper} {c : Call} {ρc : Operand → Value} {fo : Operand} {g : FuncId} {vs : Array Value} (ho : o.op = .call c) (hc : c.callee = .value fo) (hf : ρc fo = .func (.func g) #[] vs) (he : Enters P g) :
    (execOp ρc o).run P w = .ok (.enter g ((c.args.toList.map ρc ++ vs.toList).toArray)) w := by
  have e : c.args.map ρc ++ vs = (c.args.toList.map ρc ++ vs.toList).toArray := by
    apply Array.ext'; simp
  simp only [execOp, ho, Go.resolve, hc, hf, Deferred.ofValue, Sem.run_bind, Sem.run_pure, Result.andThen_ok, invoke, Array.empty_append, e]
  exact callFunc_run he _ w

/-- Blocks that the caller holds back while a callee runs that gives back plain data only. -/
def without (A : Nat → Prop) (M : Nat → Option MB) (ids : List Nat) : Nat → Prop := fun b => A b ∧ ¬ ∃ id m, id ∈ ids ∧ M id = some m ∧ m.b = b

theorem rc_resolve (hR : HR w A M B H) {A' : Nat → Prop} (hA : ∀ b, b < w.heap.size → A' b → A b) {n : Nat} {xs ys : List AV} {vs : List Value} (h : RC w A M vs xs) (hm : mapO (resolve H n) xs = some ys)
    (hid : ∀ id, id ∈ xs.flatMap (reach H n) → ∀ m, M id = some m → ¬ A' m.b) : RC w A' noBox vs ys := by
  obtain ⟨e1, e2⟩ := mapO_spec hm
  refine ⟨by rw [h.1, e1], fun i hi => ?_⟩
  have hi' : i < xs.length := by omega
  exact resolve_sound hR hA n _ _ _ (h.2 i hi') (e2 i hi') fun id hid' m hm' => hid id (List.mem_flatMap.2 ⟨_, getD_mem hi', hid'⟩) m hm'

/-- Calling by a contract. -/
theorem call_good (hR : HR w A M B H) (hI : Inv w) {g : FuncId} {args args' : List AV} {r : AV} {vs : List Value} (hv : RC w A M vs args) (hm : mapO (resolve H rfuel) args = some args') (hg : Good P Inv g args' r)
    (hfz : r.flat = true ∨ ∀ id, id ∈ args.flatMap (reach H rfuel) → ∀ m, M id = some m → ¬ A m.b) :
    Calls P g vs.toArray w fun e w' => ∃ v, e = .returned v ∧ Below w.heap.size w w' ∧ Rel w' A M v r := by
  rcases hfz with hfl | hfz
  · have hrc := rc_resolve hR (A' := without A M (args.flatMap (reach H rfuel))) (fun b _ h => h.1) hv hm (fun id hid m hm' h => h.2 ⟨id, m, hid, hm', rfl⟩)
    refine (hg.2 w _ vs hI (fun b hb => hR.lt b hb.1) hrc).mono ?_
    rintro e w' ⟨v, rfl, hb, hr⟩
    exact ⟨v, rfl, hb, hr.flat hfl⟩
  · have hrc := rc_resolve hR (A' := A) (fun b _ h => h) hv hm hfz
    refine (hg.2 w _ vs hI hR.lt hrc).mono ?_
    rintro e w' ⟨v, rfl, hb, hr⟩
    exact ⟨v, rfl, hb, hr.mono (fun _ _ _ => rfl) (Nat.le_refl _) (fun _ _ h => h) (mext_noBox M)⟩

/-- ONE OPERATION THAT WRITES NOTHING, the boxes as they stand behind the whole region ('H'). -/
theorem opF_core {s s' : St} {o : Oper} (h : OpF P Inv s o s') (hsub : HSub s'.heap H) {a : Act} (hR : HR w A M B H) (hB : B ≤ w.heap.size) (hI : Inv w)
    (hρ : ∀ x, x ∈ o.op.operands.toList → Rel w A M (a.eval x) (s.eval x)) (hn : s.heap.length < s'.heap.length → M s.heap.length = none) {K : Act → World → Prop} {Q : Exit → Act → World → Prop} :
    ∃ x, s'.tmps = putT s.tmps o.dst x ∧ ((∀ v w' A' M', Below w.heap.size w w' → MExt M M' → (∀ b, b < w.heap.size → (A' b ↔ A b)) →
      (∀ id m, M' id = some m → (∃ m0, M id = some m0) ∨ (id = s.heap.length ∧ s.heap.length < s'.heap.length)) → HR w' A' M' B H → Rel w' A' M' v x → K (a.put o.dst v) w') → o.wp P a w K Q) := by
  rcases h with ⟨x, nb, hf, rfl⟩ | ⟨c, g, args, args', r, ho, hct, hm, hg, rfl⟩
  · refine ⟨x, rfl, fun hK => ?_⟩
    have hsub0 : HSub s.heap H := (HSub.append s.heap nb.toList).trans hsub
    have hf' := fop_mono hsub0 hf
    cases nb with
    | none =>
      have hn' : M H.length = none := hR.none_of_length (Nat.le_refl _)
      obtain ⟨v, w', A', M', hrun, hbel, hext, hA, hM, hR', hr⟩ := fop_sound (o := o) (ρc := a.eval) (fop_nid (n' := H.length) hf') hρ hR hB hn' (by simp)
      have hMM : ∀ id m, M' id = some m → ∃ m0, M id = some m0 := by
        intro id m hm
        by_cases hid : id = H.length
        · rw [hid, hR'.none_of_length (Nat.le_refl _)] at hm; simp at hm
        · rw [hM id hid] at hm; exact ⟨m, hm⟩
      have := hK v w' A' M' hbel hext hA (fun id m hm => .inl (hMM id m hm)) hR' hr
      unfold Oper.wp
      rw [hrun]
      exact this
    | some bx =>
      have hlen : s.heap.length < (s.heap ++ [bx]).length := by simp
      have hn' : M s.heap.length = none := hn (by simp)
      obtain ⟨f, hfb, _⟩ := hsub s.heap.length bx (by simp)
      obtain ⟨v, w', A', M', hrun, hbel, hext, hA, hM, hR', hr⟩ := fop_sound (o := o) (ρc := a.eval) hf' hρ hR hB hn' (fun bx' hbx' => by simp only [Option.some.injEq] at hbx'; subst hbx'; exact ⟨f, hfb⟩)
      have := hK v w' A' M' hbel hext hA (fun id m hm => by
        by_cases hid : id = s.heap.length
        · exact .inr ⟨hid, by simp⟩
        · rw [hM id hid] at hm; exact .inl ⟨m, hm⟩) hR' hr
      unfold Oper.wp
      rw [hrun]
      exact this
  · refine ⟨r, rfl, fun hK => ?_⟩
    unfold callTarget at hct
    split at hct
    case h_2 => simp at hct
    rename_i fo hcal
    split at hct
    case h_2 => simp at hct
    rename_i g' caps hfo
    simp only [Option.some.injEq, Prod.mk.injEq] at hct
    obtain ⟨rfl, rfl⟩ := hct
    have hopf : o.op.operands.toList = fo :: c.args.toList := by simp [ho, Op.operands, Call.operands, hcal]
    have hfr := hρ fo (by rw [hopf]; simp)
    rw [hfo] at hfr
    obtain ⟨cv, hcv, hcs, hcr⟩ := hfr.func_inv
    have hma := map_rel (w := w) (A := A) (M := M) (l := c.args.toList) (ρc := a.eval) (ρ := s.eval) (fun x hx => hρ x (by rw [hopf]; simp [hx]))
    have hrc : RC w A M (c.args.toList.map a.eval ++ cv.toList) (c.args.toList.map s.eval ++ caps) := RC.append ⟨hma.1, hma.2⟩ ⟨by simpa using hcs, fun i hi => by have := hcr i hi; simpa [List.getD_eq_getElem?_getD, Array.getD_eq_getD_getElem?] using this⟩
    have hsub0 : HSub s.heap H := by
      unfold afterCall at hsub
      split at hsub
      · exact hsub
      · exact (HSub.freeze s.heap _).trans hsub
    obtain ⟨e1, e2⟩ := mapO_spec hm
    have hm' : mapO (resolve H rfuel) (c.args.toList.map s.eval ++ caps) = some args' := mapO_mono (fun x y _ hxy => (resolve_mono hsub0 rfuel x y hxy).1) hm
    have hreach : (c.args.toList.map s.eval ++ caps).flatMap (reach H rfuel) = (c.args.toList.map s.eval ++ caps).flatMap (reach s.heap rfuel) := by
      simp only [List.flatMap]
      congr 1
      apply List.map_congr_left
      intro x hx
      obtain ⟨i, hi, rfl⟩ := mem_getD hx
      exact (resolve_mono hsub0 rfuel _ _ (e2 i hi)).2
    have hfz : r.flat = true ∨ ∀ id, id ∈ (c.args.toList.map s.eval ++ caps).flatMap (reach H rfuel) → ∀ m, M id = some m → ¬ A m.b := by
      by_cases hfl : r.flat = true
      · exact .inl hfl
      · refine .inr fun id hid m hmm hAm => ?_
        rw [hreach] at hid
        unfold afterCall at hsub
        rw [if_neg hfl] at hsub
        obtain ⟨x, hx, hxi⟩ := List.mem_flatMap.1 hid
        obtain ⟨i, hi, rfl⟩ := mem_getD hx
        obtain ⟨bx, hbx⟩ := reach_in rfuel _ _ id (e2 i hi) hxi
        have hfr2 : (freeze s.heap ((c.args.toList.map s.eval ++ caps).flatMap (reach s.heap rfuel)))[id]? = some { bx with frz := true } := by
          rw [freeze_get, hbx]
          simp only [Option.map_some, frzIf, List.contains_iff_mem.2 hid, if_true]
        obtain ⟨f, hf1, hf2⟩ := hsub id _ hfr2
        obtain ⟨bx2, hb2, hbat⟩ := hR.box id m hmm
        rw [hf1] at hb2
        simp only [Option.some.injEq] at hb2
        have hft : bx2.frz = true := by rw [← hb2]; exact hf2 rfl
        have := hbat.guard.2 hAm
        rw [hft] at this
        simp at this
    have hcall := call_good (P := P) hR hI hrc hm' hg hfz
    unfold Oper.wp
    rw [call_run ho hcal hcv hg.1, Oper.upon_enter]
    refine hcall.mono ?_
    rintro e w' ⟨v, rfl, hb, hr⟩
    exact hK v w' A M hb (MExt.refl M) (fun _ _ => Iff.rfl) (fun id m hm => .inl ⟨m, hm⟩) (hR.grow hb) hr

/-- The boxes that will be frozen are frozen now. -/
theorem HR.refreeze {h : List Box} (hR : HR w A M B h) (hsub : HSub h H) :
    ∃ A', HR w A' M B H ∧ (∀ b, A' b → A b) ∧ (∀ b, b < B → A b → A' b) := by
  refine ⟨fun b => A b ∧ ¬ ∃ id m bx, M id = some m ∧ m.b = b ∧ H[id]? = some bx ∧ bx.frz = true, ⟨?_, hR.inj, fun b hb => hR.lt b hb.1⟩, fun b hb => hb.1, fun b hb hA => ⟨hA, ?_⟩⟩
  · intro id m hm
    obtain ⟨bx, h1, h2⟩ := hR.box id m hm
    obtain ⟨f, h3, h4⟩ := hsub id bx h1
    refine ⟨_, h3, ?_⟩
    obtain ⟨c, g1, g2, g3⟩ := h2.cells
    refine ⟨h2.ver, h2.sz, h2.ty, h2.capm, h2.fits, h2.low, h2.lt, h2.ok, ⟨c, g1, g2, fun i j hi hj => (g3 i j hi hj).mono (fun _ _ _ => rfl) (Nat.le_refl _) (fun _ _ h => h.1) (MExt.refl M)⟩, ?_⟩
    show f = false ↔ _
    constructor
    · intro hf
      have hbf : bx.frz = false := by
        cases hb : bx.frz with
        | false => rfl
        | true => rw [h4 hb] at hf; simp at hf
      refine ⟨h2.guard.1 hbf, ?_⟩
      rintro ⟨id', m', bx', e1, e2, e3, e4⟩
      have : id' = id := hR.inj id' id m' m e1 hm e2
      subst this
      rw [h3] at e3
      simp only [Option.some.injEq] at e3
      rw [← e3] at e4
      simp [hf] at e4
    · rintro ⟨_, hno⟩
      cases hf : f with
      | false => rfl
      | true => exact absurd ⟨id, m, _, hm, rfl, h3, hf⟩ hno
  · rintro ⟨id, m, bx, e1, e2, _, _⟩
    obtain ⟨bx', _, h2⟩ := hR.box id m e1
    have := h2.low
    omega

end

/-- THE MODEL's STATE IS AS THE ABSTRACT ONE SAYS; 'w0', 'A0': the world at the function's door, and what its caller avoids. -/
structure SR (w0 : World) (A0 : Nat → Prop) (w : World) (A : Nat → Prop) (M : Nat → Option MB) (s : St) (a : Act) : Prop where
  base : Below w0.heap.size w0 w
  outer : ∀ b, b < w0.heap.size → (A b ↔ A0 b)
  size : a.tmps.size = s.tmps.length
  tmps : ∀ t, t < s.tmps.length → Rel w A M (a.tmps.getD t undef) (s.tmps.getD t .top)
  heap : HR w A M w0.heap.size s.heap
  defers : a.defers = []

def SOk (w0 : World) (A0 : Nat → Prop) (s : St) : Act → World → Prop := fun a w => ∃ A M, SR w0 A0 w A M s a

section
variable {P : Program} {Inv : World → Prop} {w0 w : World} {A0 A : Nat → Prop} {M : Nat → Option MB}

theorem SR.eval {s : St} {a : Act} (h : SR w0 A0 w A M s a) (x : Operand) : Rel w A M (a.eval x) (s.eval x) := by
  cases x with
  | tmp t =>
    by_cases ht : t < s.tmps.length
    · exact h.tmps t ht
    · have : s.eval (.tmp t) = .top := by simp [St.eval, List.getD_eq_getElem?_getD, List.getElem?_eq_none (Nat.le_of_not_lt ht)]
      rw [this]; exact .top _
  | const v => exact rel_avOf w A M v
  | global g => exact .gptr g
  | func f => exact .func f #[] [] rfl (by simp)

theorem rel_put {s : St} {a : Act} {A' : Nat → Prop} {M' : Nat → Option MB} {w' : World} (h1 : a.tmps.size = s.tmps.length) (h2 : ∀ t, t < s.tmps.length → Rel w' A' M' (a.tmps.getD t undef) (s.tmps.getD t .top)) {d : Option Tmp} {v : Value} {x : AV} (hv : Rel w' A' M' v x) :
    (a.put d v).tmps.size = (putT s.tmps d x).length ∧ ∀ t, t < (putT s.tmps d x).length → Rel w' A' M' ((a.put d v).tmps.getD t undef) ((putT s.tmps d x).getD t .top) := by
  cases d with
  | none => exact ⟨h1, h2⟩
  | some d =>
    refine ⟨by simp [Act.put, putT, h1], fun t ht => ?_⟩
    simp only [putT, List.length_set] at ht
    have hta : t < a.tmps.size := by omega
    simp only [Act.put, putT]
    by_cases hd : d = t
    · subst hd
      have e1 : (a.tmps.setIfInBounds d v).getD d undef = v := by simp [Array.getD_eq_getD_getElem?, hta]
      have e2 : (s.tmps.set d x).getD d .top = x := by simp [List.getD_eq_getElem?_getD, ht]
      rw [e1, e2]; exact hv
    · have e1 : (a.tmps.setIfInBounds d v).getD t undef = a.tmps.getD t undef := by simp [Array.getD_eq_getD_getElem?, Array.getElem?_setIfInBounds_ne hd]
      have e2 : (s.tmps.set d x).getD t .top = s.tmps.getD t .top := by simp [List.getD_eq_getElem?_getD, List.getElem?_set_ne hd]
      rw [e1, e2]; exact h2 t ht

theorem put_defers (a : Act) (d : Option Tmp) (v : Value) : (a.put d v).defers = a.defers := by cases d <;> rfl

theorem SR.inv {s : St} {a : Act} (hIo : InvOk Inv) (hI : Inv w0) (h : SR w0 A0 w A M s a) : Inv w := hIo.below _ _ hI h.base

/-- The boxes frozen ahead. -/
theorem SR.refreeze {s : St} {a : Act} {H : List Box} (h : SR w0 A0 w A M s a) (hsub : HSub s.heap H) : ∃ A', SR w0 A0 w A' M ⟨s.tmps, H⟩ a := by
  obtain ⟨A', h1, h2, h3⟩ := h.heap.refreeze hsub
  exact ⟨A', h.base, fun b hb => ⟨fun hA => (h.outer b hb).1 (h2 b hA), fun hA => h3 b hb ((h.outer b hb).2 hA)⟩, h.size, fun t ht => (h.tmps t ht).mono (fun _ _ _ => rfl) (Nat.le_refl _) (fun b _ hA => h2 b hA) (MExt.refl M), h1, h.defers⟩

theorem OpF.sub {s s' : St} {o : Oper} (h : OpF P Inv s o s') : HSub s.heap s'.heap := by
  rcases h with ⟨x, nb, _, rfl⟩ | ⟨c, g, args, args', r, _, _, _, _, rfl⟩
  · exact HSub.append _ _
  · unfold afterCall
    split
    · exact HSub.refl _
    · exact HSub.freeze _ _

theorem opF_seq (hIo : InvOk Inv) (hI : Inv w0) {s s' : St} {o : Oper} {a : Act} (h : OpF P Inv s o s') (hs : SR w0 A0 w A M s a) {K : Act → World → Prop} {Q : Exit → Act → World → Prop} (hK : ∀ a' w', SOk w0 A0 s' a' w' → K a' w') : o.wp P a w K Q := by
  obtain ⟨A1, hs1⟩ := hs.refreeze h.sub
  obtain ⟨x, hx, hwp⟩ := opF_core (w := w) (A := A1) (M := M) (B := w0.heap.size) (a := a) (K := K) (Q := Q) h (HSub.refl _) hs1.heap hs.base.size (hs.inv hIo hI) (fun y _ => by have := hs1.eval y; exact this)
    (fun _ => hs.heap.none_of_length (Nat.le_refl _))
  refine hwp fun v w' A' M' hbel hext hA hM hR' hr => hK _ _ ⟨A', M', ?_⟩
  have ht : ∀ t, t < s.tmps.length → Rel w' A' M' (a.tmps.getD t undef) (s.tmps.getD t .top) := fun t ht => (hs1.tmps t ht).mono (fun b hb _ => hbel.block b hb) hbel.size (fun b hb hA' => (hA b hb).1 hA') hext
  obtain ⟨p1, p2⟩ := rel_put (d := o.dst) hs.size ht hr
  refine ⟨hs.base.trans (hbel.mono hs.base.size), fun b hb => (hA b (Nat.lt_of_lt_of_le hb hs.base.size)).trans (hs1.outer b hb), by rw [hx]; exact p1, by rw [hx]; exact p2, hR', by rw [put_defers]; exact hs.defers⟩

theorem opI_seq (hIo : InvOk Inv) (hI : Inv w0) {s s' : St} {o : Oper} {a : Act} (h : OpI P Inv s o s') (hs : SR w0 A0 w A M s a) {K : Act → World → Prop} {Q : Exit → Act → World → Prop} (hK : ∀ a' w', SOk w0 A0 s' a' w' → K a' w') : o.wp P a w K Q := by
  have fin : ∀ (v : Value) (w' : World) (A' : Nat → Prop) (M' : Nat → Option MB) (x : AV) (H' : List Box), Below w0.heap.size w w' → MExt M M' → (∀ b, b < w.heap.size → (A' b ↔ A b)) → (∀ b, b < w.heap.size → ¬ A b → w'.heap[b]? = w.heap[b]?) → HR w' A' M' w0.heap.size H' → Rel w' A' M' v x →
      SOk w0 A0 ⟨putT s.tmps o.dst x, H'⟩ (a.put o.dst v) w' := by
    intro v w' A' M' x H' hbel hext hA hkeep hR' hr
    have ht : ∀ t, t < s.tmps.length → Rel w' A' M' (a.tmps.getD t undef) (s.tmps.getD t .top) := fun t ht => (hs.tmps t ht).mono hkeep hbel.size (fun b hb hA' => (hA b hb).1 hA') hext
    obtain ⟨p1, p2⟩ := rel_put (d := o.dst) hs.size ht hr
    exact ⟨A', M', hs.base.trans hbel, fun b hb => (hA b (Nat.lt_of_lt_of_le hb hs.base.size)).trans (hs.outer b hb), p1, p2, hR', by rw [put_defers]; exact hs.defers⟩
  rcases h with ⟨x, H', hi, rfl⟩ | ⟨c, g, args, r, H', ho, hct, hg, rfl⟩
  · obtain ⟨n, w', A', M', v, hrun, hn, hbel, hext, hA, hkeep, hR', hr⟩ := iop_sound (ρc := a.eval) hs.heap hs.base.size (fun x => hs.eval x) hi
    have := hK _ _ (fin v w' A' M' x H' hbel hext hA hkeep hR' hr)
    unfold Oper.wp
    rw [hrun]
    rcases hn with rfl | ⟨rfl, rfl⟩
    · exact this
    · exact this
  · unfold callTarget at hct
    split at hct
    case h_2 => simp at hct
    rename_i fo hcal
    split at hct
    case h_2 => simp at hct
    rename_i g' caps hfo
    simp only [Option.some.injEq, Prod.mk.injEq] at hct
    obtain ⟨rfl, rfl⟩ := hct
    have hfr := hs.eval fo
    rw [hfo] at hfr
    obtain ⟨cv, hcv, hcs, hcr⟩ := hfr.func_inv
    have hma := map_rel (w := w) (A := A) (M := M) (l := c.args.toList) (ρc := a.eval) (ρ := s.eval) (fun x _ => hs.eval x)
    have hrc : RC w A M (c.args.toList.map a.eval ++ cv.toList) (c.args.toList.map s.eval ++ caps) := RC.append ⟨hma.1, hma.2⟩ ⟨by simpa using hcs, fun i hi => by have := hcr i hi; simpa [List.getD_eq_getElem?_getD, Array.getD_eq_getD_getElem?] using this⟩
    unfold Oper.wp
    rw [call_run ho hcal hcv hg.1, Oper.upon_enter]
    refine (hg.2 w A M w0.heap.size _ (hs.inv hIo hI) hs.base.size hs.heap hrc).mono ?_
    rintro e w' ⟨v, A', M', rfl, hbel, hext, hA, hkeep, hR', hr⟩
    exact hK _ _ (fin v w' A' M' r H' hbel hext hA hkeep hR' hr)

end
end Go.Sim
