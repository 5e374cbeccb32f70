/- States, contracts, and single operations in a state. -/
import Derived.Test.YtkoepgogaojgmaaDoorSimJ
set_option linter.unusedVariables false
set_option linter.unusedSimpArgs false
set_option linter.unnecessarySimpa false
namespace Go.Sim
open Go.RowKit

structure St where
  tmps : List AV
  heap : List Box

def St.eval (s : St) : Operand → AV
  | .tmp t => s.tmps.getD t .top
  | .const v => avOf v
  | .global g => .gptr g
  | .func f => .func f []

def putT (ts : List AV) (d : Option Tmp) (v : AV) : List AV :=
  match d with
  | some d => ts.set d v
  | none => ts

def frzIf (ids : List Nat) (i : Nat) (bx : Box) : Box := if ids.contains i = true then { bx with frz := true } else bx

def freeze (H : List Box) (ids : List Nat) : List Box := if ids.isEmpty = true then H else H.mapIdx (frzIf ids)

/-- The function has a body that a call enters. -/
def Enters (P : Program) (f : FuncId) : Prop := ∃ fn, P.funcs[f]? = some fn ∧ fn.body.isNone = false ∧ (fn.name == "runtime.NumGoroutine") = false

def noBox : Nat → Option MB := fun _ => none

/-- A CONTRACT: called with values of which 'args' hold, the function returns one of which 'r' holds; the world has only grown; blocks that the caller avoids are not in the result. -/
def Good (P : Program) (Inv : World → Prop) (f : FuncId) (args : List AV) (r : AV) : Prop :=
  Enters P f ∧ ∀ (w : World) (A : Nat → Prop) (vs : List Value), Inv w → (∀ b, A b → b < w.heap.size) → RC w A noBox vs args →
    Calls P f vs.toArray w fun e w' => ∃ v, e = .returned v ∧ Below w.heap.size w w' ∧ Rel w' A noBox v r

/-- A contract of a function that is handed boxes of the caller's own and may write them. -/
def GoodM (P : Program) (Inv : World → Prop) (f : FuncId) (args : List AV) (H : List Box) (r : AV) (H' : List Box) : Prop :=
  Enters P f ∧ ∀ (w : World) (A : Nat → Prop) (M : Nat → Option MB) (B : Nat) (vs : List Value), Inv w → B ≤ w.heap.size → HR w A M B H → RC w A M vs args →
    Calls P f vs.toArray w fun e w' => ∃ v A' M', e = .returned v ∧ Below B w w' ∧ MExt M M' ∧ (∀ b, b < w.heap.size → (A' b ↔ A b)) ∧ (∀ b, b < w.heap.size → ¬ A b → w'.heap[b]? = w.heap[b]?) ∧ HR w' A' M' B H' ∧ Rel w' A' M' v r

structure InvOk (Inv : World → Prop) : Prop where
  below : ∀ w w', Inv w → Below w.heap.size w w' → Inv w'

def callTarget (s : St) (c : Call) : Option (FuncId × List AV) :=
  match c.callee with
  | .value f => match s.eval f with
    | .func g caps => some (g, c.args.toList.map s.eval ++ caps)
    | _ => none
  | _ => none

def rfuel : Nat := 5

/-- The heap behind a call that was handed 'args' and gave 'r'. -/
def afterCall (H : List Box) (args : List AV) (r : AV) : List Box := if r.flat = true then H else freeze H (args.flatMap (reach H rfuel))

def OpF (P : Program) (Inv : World → Prop) (s : St) (o : Oper) (s' : St) : Prop :=
  (∃ x nb, fop P s.eval s.heap s.heap.length o.op = some (x, nb) ∧ s' = ⟨putT s.tmps o.dst x, s.heap ++ nb.toList⟩) ∨
  (∃ c g args args' r, o.op = .call c ∧ callTarget s c = some (g, args) ∧ mapO (resolve s.heap rfuel) args = some args' ∧ Good P Inv g args' r ∧
    s' = ⟨putT s.tmps o.dst r, afterCall s.heap args r⟩)

def OpI (P : Program) (Inv : World → Prop) (s : St) (o : Oper) (s' : St) : Prop :=
  (∃ x H', iop P s.eval s.heap o.op = some (x, H') ∧ s' = ⟨putT s.tmps o.dst x, H'⟩) ∨
  (∃ c g args r H', o.op = .call c ∧ callTarget s c = some (g, args) ∧ GoodM P Inv g args s.heap r H' ∧ s' = ⟨putT s.tmps o.dst r, H'⟩)

/-! ### A heap with more boxes -/

def HSub (h H : List Box) : Prop := ∀ (id : Nat) (bx : Box), h[id]? = some bx → ∃ f, H[id]? = some { bx with frz := f } ∧ (bx.frz = true → f = true)

theorem HSub.refl (h : List Box) : HSub h h := fun id bx hb => ⟨bx.frz, hb, fun e => e⟩

theorem HSub.trans {a b c : List Box} (h : HSub a b) (h' : HSub b c) : HSub a c := fun id bx hb => by
  obtain ⟨f, h1, h2⟩ := h id bx hb
  obtain ⟨f', h3, h4⟩ := h' id _ h1
  exact ⟨f', h3, fun e => h4 (h2 e)⟩

theorem HSub.append (h : List Box) (l : List Box) : HSub h (h ++ l) := fun id bx hb => by
  have : id < h.length := by
    rcases Nat.lt_or_ge id h.length with h' | h'
    · exact h'
    · rw [List.getElem?_eq_none h'] at hb; simp at hb
  exact ⟨bx.frz, by rw [List.getElem?_append_left this]; exact hb, fun e => e⟩

theorem freeze_get (H : List Box) (ids : List Nat) (id : Nat) : (freeze H ids)[id]? = (H[id]?).map (frzIf ids id) := by
  unfold freeze
  split
  · rename_i he
    have : ids = [] := by simpa using he
    subst this
    cases H[id]? <;> simp [frzIf]
  · simp [List.getElem?_mapIdx]

theorem HSub.freeze (H : List Box) (ids : List Nat) : HSub H (freeze H ids) := fun id bx hb => by
  rw [freeze_get, hb]
  unfold frzIf
  by_cases hc : ids.contains id = true
  · exact ⟨true, by simp only [Option.map_some, hc, if_true], fun _ => rfl⟩
  · exact ⟨bx.frz, by simp only [Option.map_some, hc, if_false]; rfl, fun e => e⟩

theorem freeze_length (H : List Box) (ids : List Nat) : (freeze H ids).length = H.length := by
  unfold freeze; split <;> simp

theorem HSub.box {h H : List Box} (hs : HSub h H) {id ver : Nat} {bx : Box} (hb : getBox h id ver = some bx) : ∃ f, getBox H id ver = some { bx with frz := f } := by
  obtain ⟨h1, h2⟩ := getBox_some hb
  obtain ⟨f, h3, _⟩ := hs id bx h1
  exact ⟨f, by simp [getBox, h3, h2]⟩

section mono
variable {P : Program} {h H : List Box} (hs : HSub h H)
include hs

theorem absLoadAt_mono {ti : TI} {x r : AV} (hr : absLoadAt h ti x = some r) : absLoadAt H ti x = some r := by
  cases x <;> first | exact hr | skip
  rename_i id ver i j
  simp only [absLoadAt] at hr ⊢
  cases hb : getBox h id ver with
  | none => simp [hb] at hr
  | some bx =>
    obtain ⟨f, hf⟩ := hs.box hb
    simp only [hb] at hr
    try simp only [hf]
    exact hr

theorem absSlice_mono {t : TypeId} {x r : AV} {lo hi : Option AV} (hr : absSlice P h t x lo hi = some r) : absSlice P H t x lo hi = some r := by
  unfold absSlice at hr ⊢
  split at hr
  case h_2 => simp at hr
  rename_i ti hti
  split at hr
  · rename_i s hd; (try simp only [hti, hd]); exact hr
  · rename_i e sz xs hd; (try simp only [hti, hd]); exact hr
  · rename_i e hd; (try simp only [hti, hd]); exact hr
  · rename_i e id ver off len hd
    try simp only [hti, hd]
    cases hb : getBox h id ver with
    | none => simp [hb] at hr
    | some bx =>
      obtain ⟨f, hf⟩ := hs.box hb
      simp only [hb] at hr
      simp only [hf]
      cases hte : tinfo P e <;> simp only [hte] at hr ⊢ <;> exact hr
  · simp at hr

theorem absIndexAddr_mono {t : TypeId} {x ix r : AV} (hr : absIndexAddr P h t x ix = some r) : absIndexAddr P H t x ix = some r := by
  unfold absIndexAddr at hr ⊢
  split at hr
  case h_2 => simp at hr
  rename_i ti k n hti
  split at hr
  · rename_i e sz xs hd; (try simp only [hti, hd]); exact hr
  · rename_i e id ver off len hd
    try simp only [hti, hd]
    cases hb : getBox h id ver with
    | none => simp [hb] at hr
    | some bx =>
      obtain ⟨f, hf⟩ := hs.box hb
      simp only [hb] at hr
      simp only [hf]
      cases hte : tinfo P e <;> simp only [hte] at hr ⊢ <;> exact hr
  · rename_i m e id ver i j hd
    try simp only [hti, hd]
    cases hb : getBox h id ver with
    | none => simp [hb] at hr
    | some bx =>
      obtain ⟨f, hf⟩ := hs.box hb
      simp only [hb] at hr
      simp only [hf]
      cases hte : tinfo P e <;> simp only [hte] at hr ⊢ <;> exact hr
  · rename_i m e sz xs i j hd; (try simp only [hti, hd]); exact hr
  · simp at hr

theorem absFieldAddr_mono {t : TypeId} {x r : AV} {f : Nat} (hr : absFieldAddr P h t x f = some r) : absFieldAddr P H t x f = some r := by
  unfold absFieldAddr at hr ⊢
  split at hr
  case h_2 => simp at hr
  rename_i ti hti
  split at hr
  case h_2 => simp at hr
  rename_i fs hd
  split at hr
  case h_2 => simp at hr
  rename_i fd hfd
  split at hr
  case h_2 => simp at hr
  rename_i tf htf
  split at hr
  · simp at hr
  rename_i hsz
  try simp only [hti, hd, hfd, htf, hsz, if_false]
  split at hr
  · exact hr
  · rename_i id ver i j
    cases hb : getBox h id ver with
    | none => simp [hb] at hr
    | some bx =>
      obtain ⟨f', hf⟩ := hs.box hb
      simp only [hb] at hr
      try simp only [hf]
      exact hr
  · simp at hr

theorem absLen_mono {t : TypeId} {x r : AV} (hr : absLen P h t x = some r) : absLen P H t x = some r := by
  unfold absLen at hr ⊢
  split at hr
  case h_2 => simp at hr
  rename_i ti hti
  split at hr
  · rename_i s hd; (try simp only [hti, hd]); exact hr
  · rename_i e sz xs hd; (try simp only [hti, hd]); exact hr
  · rename_i e hd; (try simp only [hti, hd]); exact hr
  · rename_i e id ver off len hd
    try simp only [hti, hd]
    cases hb : getBox h id ver with
    | none => simp [hb] at hr
    | some bx =>
      obtain ⟨f, hf⟩ := hs.box hb
      simp only [hb] at hr
      try simp only [hf]
      exact hr
  · simp at hr

theorem fop_mono {ρ : Operand → AV} {nid : Nat} {op : Op} {r : AV × Option Box} (hr : fop P ρ h nid op = some r) : fop P ρ H nid op = some r := by
  unfold fop at hr ⊢
  cases op <;> try exact hr
  case load t a =>
    simp only at hr ⊢
    split at hr
    case h_2 => simp at hr
    rename_i ti hti
    split at hr
    case h_2 => simp at hr
    rename_i x hx
    (try simp only [hti, absLoadAt_mono hs hx]); exact hr
  case nilCheck x =>
    simp only at hr ⊢
    split at hr
    · rename_i hx; (try simp only [hx]); exact hr
    · rename_i id ver i j hx
      try simp only [hx]
      cases hb : getBox h id ver with
      | none => simp [hb] at hr
      | some bx =>
        obtain ⟨f, hf⟩ := hs.box hb
        simp only [hb] at hr
        try simp only [hf]
        exact hr
    · rename_i hx; (try simp only [hx]); exact hr
    · simp at hr
  case slice t x lo hi mx =>
    simp only at hr ⊢
    split at hr
    case h_2 => simp at hr
    split at hr
    case h_2 => simp at hr
    rename_i y hy
    (try simp only [absSlice_mono hs hy]); exact hr
  case fieldAddr t x f =>
    simp only at hr ⊢
    split at hr
    case h_2 => simp at hr
    rename_i y hy
    (try simp only [absFieldAddr_mono hs hy]); exact hr
  case indexAddr t x ix =>
    simp only at hr ⊢
    split at hr
    case h_2 => simp at hr
    rename_i y hy
    (try simp only [absIndexAddr_mono hs hy]); exact hr
  case call c =>
    simp only at hr ⊢
    split at hr
    case h_2 => simp at hr
    rename_i b hb
    split at hr
    · rename_i t ts x hts hxs
      try simp only [hb, hts, hxs]
      split at hr
      case h_2 => simp at hr
      rename_i y hy
      (try simp only [absLen_mono hs hy]); exact hr
    · rename_i x xs hxs; (try simp only [hb, hxs]); exact hr
    · rename_i x xs hxs; (try simp only [hb, hxs]); exact hr
    · simp at hr
end mono

/-- An operation that lays no box does not look at the number that it would have. -/
theorem fop_nid {P : Program} {ρ : Operand → AV} {H : List Box} {n n' : Nat} {op : Op} {x : AV} (h : fop P ρ H n op = some (x, none)) : fop P ρ H n' op = some (x, none) := by
  unfold fop at h ⊢
  cases op <;> try exact h
  case alloc e =>
    simp only at h
    split at h
    · split at h <;> simp at h
    · simp at h
  case box e a =>
    simp only at h
    split at h <;> simp at h
  case buildSlice t len parts =>
    simp only at h
    split at h
    · split at h
      · split at h
        · split at h
          · split at h <;> simp at h
          · simp at h
        · simp at h
      · simp at h
    · simp at h
  case makeSlice t l c =>
    simp only [absMake] at h
    split at h
    · split at h
      · split at h
        · split at h <;> simp at h
        · simp at h
      · simp at h
    · simp at h

theorem mapO_mono {r r' : AV → Option AV} : ∀ {xs ys : List AV}, (∀ x y, x ∈ xs → r x = some y → r' x = some y) → mapO r xs = some ys → mapO r' xs = some ys
  | [], ys, _, h => h
  | x :: xs, ys, hr, h => by
    unfold mapO at h ⊢
    split at h
    · rename_i y zs h1 h2
      simp only [hr x y (by simp) h1, mapO_mono (fun a b ha hb => hr a b (by simp [ha]) hb) h2]
      exact h
    · simp at h

theorem resolve_mono {h H : List Box} (hs : HSub h H) : ∀ (n : Nat) (x y : AV), resolve h n x = some y → resolve H n x = some y ∧ reach H n x = reach h n x
  | 0, x, y, hr => ⟨hr, rfl⟩
  | n + 1, x, y, hr => by
    have listm : ∀ cs ds, mapO (resolve h n) cs = some ds → mapO (resolve H n) cs = some ds ∧ cs.flatMap (reach H n) = cs.flatMap (reach h n) := by
      intro cs ds hc
      refine ⟨mapO_mono (fun a b _ hab => (resolve_mono hs n a b hab).1) hc, ?_⟩
      obtain ⟨e1, e2⟩ := mapO_spec hc
      simp only [List.flatMap]
      congr 1
      apply List.map_congr_left
      intro a ha
      obtain ⟨i, hi, rfl⟩ := mem_getD ha
      exact (resolve_mono hs n _ _ (e2 i hi)).2
    have mape : ∀ cs ds, mapE (resolve h n) cs = some ds → mapE (resolve H n) cs = some ds := by
      intro cs ds hc
      unfold mapE at hc ⊢
      split
      · rename_i hp; rw [if_pos hp] at hc; exact hc
      · rename_i hp
        rw [if_neg hp] at hc
        refine mapO_mono (fun a b _ hab => ?_) hc
        unfold resE at hab ⊢
        split at hab
        · split at hab
          case h_2 => simp at hab
          rename_i zs hzs
          simp only [(listm _ _ hzs).1]; exact hab
        · exact (resolve_mono hs n _ _ hab).1
    have mapr : ∀ cs ds, mapE (resolve h n) cs = some ds → ¬ AV.pures cs = true → (cs.flatMap fun (e : AV) => e.cells.flatMap (reach H n)) = cs.flatMap fun (e : AV) => e.cells.flatMap (reach h n) := by
      intro cs ds hc hp
      unfold mapE at hc
      rw [if_neg hp] at hc
      obtain ⟨e1, e2⟩ := mapO_spec hc
      simp only [List.flatMap]
      congr 1
      apply List.map_congr_left
      intro a ha
      obtain ⟨i, hi, rfl⟩ := mem_getD ha
      have h2 := e2 i hi
      unfold resE at h2
      split at h2
      · rename_i cs' hcs'
        split at h2
        case h_2 => simp at h2
        rename_i zs hzs
        have := (listm _ _ hzs).2
        rw [hcs']
        simp only [cells_agg]
        simpa [List.flatMap] using this
      · rename_i hne
        have hcell : (cs.getD i .top).cells = [cs.getD i .top] := by
          generalize cs.getD i .top = q at hne
          cases q <;> first | rfl | exact absurd rfl (hne _)
        rw [hcell]
        have := (resolve_mono hs n _ _ h2).2
        simpa using this
    unfold resolve at hr ⊢
    unfold reach
    split at hr
    · rename_i hp; simp only [hp, if_true]; exact ⟨hr, trivial⟩
    rename_i hp
    simp only [hp, if_false]
    split at hr
    · rename_i cs
      split at hr
      case h_2 => simp at hr
      rename_i ds hds
      obtain ⟨a1, a2⟩ := listm _ _ hds
      simp only [a1]; exact ⟨hr, a2⟩
    · rename_i f cs
      split at hr
      case h_2 => simp at hr
      rename_i ds hds
      obtain ⟨a1, a2⟩ := listm _ _ hds
      simp only [a1]; exact ⟨hr, a2⟩
    · rename_i id ver i j
      split at hr
      case h_2 => simp at hr
      rename_i bx hbx
      split at hr
      case h_2 => simp at hr
      rename_i ys hys
      obtain ⟨f, hf⟩ := hs.box hbx
      have hb1 := (getBox_some hbx).1
      have hf1 := (getBox_some hf).1
      simp only [hf, mape _ _ hys, hb1, hf1]
      refine ⟨hr, ?_⟩
      by_cases hpp : AV.pures bx.xs = true
      · simp [hpp]
      · simp only [hpp, if_false]; rw [mapr _ _ hys hpp]
    · rename_i id ver off len
      split at hr
      case h_2 => simp at hr
      rename_i bx hbx
      split at hr
      case h_2 => simp at hr
      rename_i ys hys
      obtain ⟨f, hf⟩ := hs.box hbx
      have hb1 := (getBox_some hbx).1
      have hf1 := (getBox_some hf).1
      simp only [hf, mape _ _ hys, hb1, hf1]
      refine ⟨hr, ?_⟩
      by_cases hpp : AV.pures ((bx.xs.drop off).take len) = true
      · simp [hpp]
      · simp only [hpp, if_false]; rw [mapr _ _ hys hpp]
    · simp at hr

end Go.Sim
