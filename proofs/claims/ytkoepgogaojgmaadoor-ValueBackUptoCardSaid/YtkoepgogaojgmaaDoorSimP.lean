/- What is to be shown of a body, as a proposition that can be computed step by step. -/
import Derived.Test.YtkoepgogaojgmaaDoorSimO
set_option linter.unusedVariables false
set_option linter.unusedSimpArgs false
set_option linter.unnecessarySimpa false
namespace Go.Sim
open Go.RowKit

/-- Both ways of a test. -/
def both (t : Bool) (a b : Prop) : Prop := (t = true → a) ∧ (t = false → b)

/-- A call of a function value: by a contract. -/
def CallK (P : Program) (Inv : World → Prop) (s : St) (c : Call) (d : Option Tmp) (K : St → Prop) : Prop :=
  ∃ s', (OpF P Inv s ⟨d, .call c, 0, "", #[], none⟩ s' ∨ OpI P Inv s ⟨d, .call c, 0, "", #[], none⟩ s') ∧ K s'

/-- The same where nothing may be written. -/
def CallF (P : Program) (Inv : World → Prop) (s : St) (c : Call) (d : Option Tmp) (K : St → Prop) : Prop :=
  ∃ s', OpF P Inv s ⟨d, .call c, 0, "", #[], none⟩ s' ∧ K s'

def fstep (P : Program) (o : Oper) (s : St) (K : St → Prop) : Prop :=
  match fop P s.eval s.heap s.heap.length o.op with
  | some (x, nb) => K ⟨putT s.tmps o.dst x, s.heap ++ nb.toList⟩
  | none => False

def istep (P : Program) (o : Oper) (s : St) (K : St → Prop) : Prop :=
  match iop P s.eval s.heap o.op with
  | some (x, H) => K ⟨putT s.tmps o.dst x, H⟩
  | none => False

def isImp : Op → Bool
  | .store _ _ _ => true
  | .call c => match c.callee with
    | .builtin .append => true
    | _ => false
  | _ => false

def stepF (P : Program) (Inv : World → Prop) (o : Oper) (s : St) (K : St → Prop) : Prop :=
  match o.op with
  | .pick c a b => match s.eval c with
    | .bool t => both t (K ⟨putT s.tmps o.dst (s.eval a), s.heap⟩) (K ⟨putT s.tmps o.dst (s.eval b), s.heap⟩)
    | _ => False
  | .call c => match c.callee with
    | .value _ => CallF P Inv s c o.dst K
    | _ => fstep P o s K
  | _ => fstep P o s K

def stepA (P : Program) (Inv : World → Prop) (o : Oper) (s : St) (K : St → Prop) : Prop :=
  match o.op with
  | .pick c a b => match s.eval c with
    | .bool t => both t (K ⟨putT s.tmps o.dst (s.eval a), s.heap⟩) (K ⟨putT s.tmps o.dst (s.eval b), s.heap⟩)
    | _ => False
  | .call c => match c.callee with
    | .value _ => CallK P Inv s c o.dst K
    | _ => if isImp o.op = true then istep P o s K else fstep P o s K
  | _ => if isImp o.op = true then istep P o s K else fstep P o s K

def wOps (step : Oper → St → (St → Prop) → Prop) (ops : Array Oper) : List Oper → St → (St → Prop) → Prop
  | [], s, K => K s
  | o :: rest, s, K => match awanted ops s.tmps o with
    | some b => both b (step o s fun s' => wOps step ops rest s' K) (wOps step ops rest ⟨putT s.tmps o.dst (.tuple []), s.heap⟩ K)
    | none => False

/-- How many operations may come in any order. -/
def freeOps (ops : Array Oper) : Nat := ((List.range (ops.size + 1)).find? fun m => regOk ops m && (ops.toList.take m).all fun o => !isImp o.op).getD 0

def wReg (P : Program) (Inv : World → Prop) (ops : Array Oper) (draw : Bool) (s : St) (K : St → Prop) : Prop :=
  if draw = true then
    ∃ m, m ≤ ops.size ∧ regOk ops m = true ∧ wOps (stepF P Inv) ops (ops.toList.take m) s fun s1 => wOps (stepA P Inv) ops (ops.toList.drop m) s1 K
  else wOps (stepA P Inv) ops ops.toList s K

/-- A loop: left to a rule of its own. -/
def LoopK (P : Program) (Inv : World → Prop) (c : Code) (s : St) (Q : Exit → St → Prop) : Prop := Does P Inv (.loop c) Q s

def W (P : Program) (Inv : World → Prop) : Code → St → (Exit → St → Prop) → Prop
  | .skip, s, Q => Q .normal s
  | .region _ ops draw, s, Q => wReg P Inv ops draw s (Q .normal)
  | .seq a b, s, Q => W P Inv a s (thenQ (fun s' => W P Inv b s' Q) Q)
  | .cond c a b, s, Q => match s.eval c with
    | .bool t => both t (W P Inv a s Q) (W P Inv b s Q)
    | _ => False
  | .block id c, s, Q => W P Inv c s (blockQ id Q)
  | .loop c, s, Q => LoopK P Inv c s Q
  | .exit id, s, Q => Q (.exit id) s
  | .ret, s, Q => Q .ret s
  | _, _, _ => False

section
variable {P : Program} {Inv : World → Prop}

theorem opF_irrel {s s' : St} {o : Oper} {c : Call} (ho : o.op = .call c) (h : OpF P Inv s ⟨o.dst, .call c, 0, "", #[], none⟩ s') : OpF P Inv s o s' := by
  rcases h with ⟨x, nb, h1, h2⟩ | ⟨c', g, args, args', r, h1, h2⟩
  · exact .inl ⟨x, nb, by rw [ho]; exact h1, h2⟩
  · simp only [Op.call.injEq] at h1; subst h1
    exact .inr ⟨c, g, args, args', r, ho, h2⟩

theorem opI_irrel {s s' : St} {o : Oper} {c : Call} (ho : o.op = .call c) (h : OpI P Inv s ⟨o.dst, .call c, 0, "", #[], none⟩ s') : OpI P Inv s o s' := by
  rcases h with ⟨x, H', h1, h2⟩ | ⟨c', g, args, r, H', h1, h2⟩
  · exact .inl ⟨x, H', by rw [ho]; exact h1, h2⟩
  · simp only [Op.call.injEq] at h1; subst h1
    exact .inr ⟨c, g, args, r, H', ho, h2⟩

theorem fstep_sound {o : Oper} {s : St} {K : St → Prop} (h : fstep P o s K) : ∃ s', OpF P Inv s o s' ∧ K s' := by
  unfold fstep at h
  split at h
  · rename_i x nb hx
    exact ⟨_, .inl ⟨x, nb, hx, rfl⟩, h⟩
  · exact h.elim

theorem istep_sound {o : Oper} {s : St} {K : St → Prop} (h : istep P o s K) : ∃ s', OpI P Inv s o s' ∧ K s' := by
  unfold istep at h
  split at h
  · rename_i x H hx
    exact ⟨_, .inl ⟨x, H, hx, rfl⟩, h⟩
  · exact h.elim

theorem pick_sound {o : Oper} {s : St} {K : St → Prop} {c a b : Operand} (ho : o.op = .pick c a b) {t : Bool} (hc : s.eval c = .bool t) (h : both t (K ⟨putT s.tmps o.dst (s.eval a), s.heap⟩) (K ⟨putT s.tmps o.dst (s.eval b), s.heap⟩)) : ∃ s', OpF P Inv s o s' ∧ K s' := by
  refine ⟨⟨putT s.tmps o.dst (if t = true then s.eval a else s.eval b), s.heap⟩, .inl ⟨if t = true then s.eval a else s.eval b, none, by simp only [ho, fop, hc], by simp⟩, ?_⟩
  cases t
  · exact h.2 rfl
  · exact h.1 rfl

theorem stepF_sound {o : Oper} {s : St} {K : St → Prop} (h : stepF P Inv o s K) : ∃ s', OpF P Inv s o s' ∧ K s' := by
  unfold stepF at h
  split at h
  · rename_i c a b ho
    split at h
    · rename_i t ht; exact pick_sound ho ht h
    · exact h.elim
  · rename_i c ho
    split at h
    · obtain ⟨s', h1, h2⟩ := h; exact ⟨s', opF_irrel ho h1, h2⟩
    · exact fstep_sound h
  · exact fstep_sound h

theorem stepA_sound {o : Oper} {s : St} {K : St → Prop} (h : stepA P Inv o s K) : ∃ s', OpA P Inv s o s' ∧ K s' := by
  unfold stepA at h
  split at h
  · rename_i c a b ho
    split at h
    · rename_i t ht; obtain ⟨s', h1, h2⟩ := pick_sound (P := P) (Inv := Inv) ho ht h; exact ⟨s', .inl h1, h2⟩
    · exact h.elim
  · rename_i c ho
    split at h
    · obtain ⟨s', h1, h2⟩ := h
      rcases h1 with h1 | h1
      · exact ⟨s', .inl (opF_irrel ho h1), h2⟩
      · exact ⟨s', .inr (opI_irrel ho h1), h2⟩
    · split at h
      · obtain ⟨s', h1, h2⟩ := istep_sound (Inv := Inv) h; exact ⟨s', .inr h1, h2⟩
      · obtain ⟨s', h1, h2⟩ := fstep_sound (Inv := Inv) h; exact ⟨s', .inl h1, h2⟩
  · split at h
    · obtain ⟨s', h1, h2⟩ := istep_sound (Inv := Inv) h; exact ⟨s', .inr h1, h2⟩
    · obtain ⟨s', h1, h2⟩ := fstep_sound (Inv := Inv) h; exact ⟨s', .inl h1, h2⟩

theorem wOps_sound {step : Oper → St → (St → Prop) → Prop} {Step : St → Oper → St → Prop} (hstep : ∀ o s K, step o s K → ∃ s', Step s o s' ∧ K s') {ops : Array Oper} :
    ∀ (l : List Oper) (s : St) (K : St → Prop), wOps step ops l s K → ∃ s', Path Step ops l s s' ∧ K s'
  | [], s, K, h => ⟨s, .nil s, h⟩
  | o :: rest, s, K, h => by
    unfold wOps at h
    split at h
    · rename_i b hb
      cases b with
      | true =>
        obtain ⟨s1, h1, h2⟩ := hstep _ _ _ (h.1 rfl)
        obtain ⟨s2, h3, h4⟩ := wOps_sound hstep rest s1 K h2
        exact ⟨s2, .run hb h1 h3, h4⟩
      | false =>
        obtain ⟨s2, h3, h4⟩ := wOps_sound hstep rest _ K (h.2 rfl)
        exact ⟨s2, .skip hb h3, h4⟩
    · exact h.elim

theorem W_sound (hmx : P.follows .mixedOrders = true) (hIo : InvOk Inv) : ∀ (c : Code) (s : St) (Q : Exit → St → Prop), W P Inv c s Q → Does P Inv c Q s
  | .skip, s, Q, h => sem_skip h
  | .region id ops draw, s, Q, h => by
    unfold W wReg at h
    split at h
    · rename_i hd
      subst hd
      obtain ⟨m, hm, hok, h⟩ := h
      obtain ⟨s1, p1, h⟩ := wOps_sound (step := stepF P Inv) (Step := OpF P Inv) (fun o s K => stepF_sound) _ _ _ h
      obtain ⟨s2, p2, h⟩ := wOps_sound (step := stepA P Inv) (Step := OpA P Inv) (fun o s K => stepA_sound) _ _ _ h
      exact sem_draw hmx hIo m hok hm p1 p2 h
    · rename_i hd
      have : draw = false := by simpa using hd
      subst this
      obtain ⟨s2, p2, h⟩ := wOps_sound (step := stepA P Inv) (Step := OpA P Inv) (fun o s K => stepA_sound) _ _ _ h
      exact sem_region hIo p2 h
  | .seq a b, s, Q, h => sem_seq (sem_mono (W_sound hmx hIo a s _ h) fun e s' hq => by
    cases e with
    | normal => exact W_sound hmx hIo b s' Q hq
    | _ => exact hq)
  | .cond c a b, s, Q, h => by
    unfold W at h
    split at h
    · rename_i t ht
      exact sem_cond ht (fun e => W_sound hmx hIo a s Q (h.1 e)) (fun e => W_sound hmx hIo b s Q (h.2 e))
    · exact h.elim
  | .block id c, s, Q, h => sem_block (W_sound hmx hIo c s _ h)
  | .loop c, s, Q, h => h
  | .exit id, s, Q, h => sem_exit h
  | .ret, s, Q, h => sem_ret h
  | .rangeFunc .., s, Q, h => by simp [W] at h
  | .scope _, s, Q, h => by simp [W] at h
  | .label _, s, Q, h => by simp [W] at h
  | .goto _, s, Q, h => by simp [W] at h
  | .refuse _, s, Q, h => by simp [W] at h

/-- A call by a contract. -/
theorem callK_good {s : St} {c : Call} {d : Option Tmp} {K : St → Prop} {g : FuncId} {args args' : List AV} {r : AV} (hct : callTarget s c = some (g, args)) (hm : mapO (resolve s.heap rfuel) args = some args') (hg : Good P Inv g args' r)
    (hK : K ⟨putT s.tmps d r, afterCall s.heap args r⟩) : CallK P Inv s c d K :=
  ⟨_, .inl (.inr ⟨c, g, args, args', r, rfl, hct, hm, hg, rfl⟩), hK⟩

theorem callF_good {s : St} {c : Call} {d : Option Tmp} {K : St → Prop} {g : FuncId} {args args' : List AV} {r : AV} (hct : callTarget s c = some (g, args)) (hm : mapO (resolve s.heap rfuel) args = some args') (hg : Good P Inv g args' r)
    (hK : K ⟨putT s.tmps d r, afterCall s.heap args r⟩) : CallF P Inv s c d K :=
  ⟨_, .inr ⟨c, g, args, args', r, rfl, hct, hm, hg, rfl⟩, hK⟩

theorem good_of_W (hmx : P.follows .mixedOrders = true) (hIo : InvOk Inv) {f : FuncId} {fn : Func} {c : Code} {args : List AV} {r : AV} (hf : P.funcs[f]? = some fn) (hb : fn.body = some c) (hname : (fn.name == "runtime.NumGoroutine") = false)
    (h : W P Inv c ⟨args ++ List.replicate (fn.ntmps - args.length) (.tuple []), []⟩ (fun e s => (e = .ret ∨ e = .normal) ∧ resultOf P fn.results.toList s = some r)) : Good P Inv f args r :=
  good_of hIo hf hb hname (W_sound hmx hIo c _ _ h)

end
end Go.Sim
