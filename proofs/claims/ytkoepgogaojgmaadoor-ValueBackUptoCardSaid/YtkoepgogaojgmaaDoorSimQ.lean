/- Walking a body step by step: each lemma takes one step, its premises hold by computation. -/
import Derived.Test.YtkoepgogaojgmaaDoorSimP
set_option linter.unusedVariables false
set_option linter.unusedSimpArgs false
set_option linter.unnecessarySimpa false
namespace Go.Sim
open Go.RowKit

/-- Operations that are walked through by 'fop' alone. -/
def plainOp : Op → Bool
  | .pick .. => false
  | .store .. => false
  | .call c => match c.callee with
    | .value _ => false
    | .builtin .append => false
    | _ => true
  | _ => true

section
variable {P : Program} {Inv : World → Prop} {ops : Array Oper} {o : Oper} {rest : List Oper} {s : St} {K : St → Prop}

theorem stepA_plain (h : plainOp o.op = true) : stepA P Inv o s K = fstep P o s K := by
  unfold stepA isImp
  unfold plainOp at h
  cases ho : o.op <;> simp only [ho] at h ⊢ <;> first | rfl | (simp at h; done) | skip
  rename_i c
  obtain ⟨cal, ar, ty⟩ := c
  cases cal <;> simp only at h ⊢ <;> first | rfl | (simp at h; done) | skip
  rename_i b
  cases b <;> simp_all

theorem stepF_plain (h : plainOp o.op = true) : stepF P Inv o s K = fstep P o s K := by
  unfold stepF
  unfold plainOp at h
  cases ho : o.op <;> simp only [ho] at h ⊢ <;> first | rfl | (simp at h; done) | skip
  rename_i c
  obtain ⟨cal, ar, ty⟩ := c
  cases cal <;> simp only at h ⊢ <;> first | rfl | (simp at h; done)

theorem stepA_imp (h : isImp o.op = true) : stepA P Inv o s K = istep P o s K := by
  unfold stepA
  cases ho : o.op <;> simp only [ho] at h ⊢ <;> first | (simp [isImp] at h; done) | (rw [if_pos h]; done) | skip
  rename_i c
  obtain ⟨cal, ar, ty⟩ := c
  cases cal <;> simp only at h ⊢ <;> first | (simp [isImp] at h; done) | rw [if_pos h]

theorem both_true {a b : Prop} (h : a) : both true a b := ⟨fun _ => h, fun e => by simp at e⟩
theorem both_false {a b : Prop} (h : b) : both false a b := ⟨fun e => by simp at e, fun _ => h⟩

theorem a_nil (h : K s) : wOps (stepA P Inv) ops [] s K := h
theorem f_nil (h : K s) : wOps (stepF P Inv) ops [] s K := h

theorem a_op (hg : awanted ops s.tmps o = some true) (hp : plainOp o.op = true) {x : AV} (hf : fop P s.eval s.heap s.heap.length o.op = some (x, none)) {ts : List AV} (ht : putT s.tmps o.dst x = ts)
    (h : wOps (stepA P Inv) ops rest ⟨ts, s.heap⟩ K) : wOps (stepA P Inv) ops (o :: rest) s K := by
  unfold wOps
  rw [hg]
  refine both_true ?_
  rw [stepA_plain hp]
  unfold fstep
  rw [hf]
  simpa [ht] using h

theorem a_new (hg : awanted ops s.tmps o = some true) (hp : plainOp o.op = true) {x : AV} {bx : Box} (hf : fop P s.eval s.heap s.heap.length o.op = some (x, some bx)) {ts : List AV} (ht : putT s.tmps o.dst x = ts) {H : List Box} (hH : s.heap ++ [bx] = H)
    (h : wOps (stepA P Inv) ops rest ⟨ts, H⟩ K) : wOps (stepA P Inv) ops (o :: rest) s K := by
  unfold wOps
  rw [hg]
  refine both_true ?_
  rw [stepA_plain hp]
  unfold fstep
  rw [hf]
  simpa [ht, hH] using h

theorem f_op (hg : awanted ops s.tmps o = some true) (hp : plainOp o.op = true) {x : AV} (hf : fop P s.eval s.heap s.heap.length o.op = some (x, none)) {ts : List AV} (ht : putT s.tmps o.dst x = ts)
    (h : wOps (stepF P Inv) ops rest ⟨ts, s.heap⟩ K) : wOps (stepF P Inv) ops (o :: rest) s K := by
  unfold wOps
  rw [hg]
  refine both_true ?_
  rw [stepF_plain hp]
  unfold fstep
  rw [hf]
  simpa [ht] using h

theorem f_new (hg : awanted ops s.tmps o = some true) (hp : plainOp o.op = true) {x : AV} {bx : Box} (hf : fop P s.eval s.heap s.heap.length o.op = some (x, some bx)) {ts : List AV} (ht : putT s.tmps o.dst x = ts) {H : List Box} (hH : s.heap ++ [bx] = H)
    (h : wOps (stepF P Inv) ops rest ⟨ts, H⟩ K) : wOps (stepF P Inv) ops (o :: rest) s K := by
  unfold wOps
  rw [hg]
  refine both_true ?_
  rw [stepF_plain hp]
  unfold fstep
  rw [hf]
  simpa [ht, hH] using h

theorem a_skip (hg : awanted ops s.tmps o = some false) {ts : List AV} (ht : putT s.tmps o.dst (.tuple []) = ts) (h : wOps (stepA P Inv) ops rest ⟨ts, s.heap⟩ K) : wOps (stepA P Inv) ops (o :: rest) s K := by
  unfold wOps
  rw [hg]
  refine both_false ?_
  rw [ht]; exact h

theorem f_skip (hg : awanted ops s.tmps o = some false) {ts : List AV} (ht : putT s.tmps o.dst (.tuple []) = ts) (h : wOps (stepF P Inv) ops rest ⟨ts, s.heap⟩ K) : wOps (stepF P Inv) ops (o :: rest) s K := by
  unfold wOps
  rw [hg]
  refine both_false ?_
  rw [ht]; exact h

/-- An operation of the call's own boxes. -/
theorem a_imp (hg : awanted ops s.tmps o = some true) (hp : isImp o.op = true) {x : AV} {H : List Box} (hf : iop P s.eval s.heap o.op = some (x, H)) {ts : List AV} (ht : putT s.tmps o.dst x = ts)
    (h : wOps (stepA P Inv) ops rest ⟨ts, H⟩ K) : wOps (stepA P Inv) ops (o :: rest) s K := by
  unfold wOps
  rw [hg]
  refine both_true ?_
  rw [stepA_imp hp]
  unfold istep
  rw [hf]
  subst ht; exact h

/-- A guard that is not decided yet: both ways, and from then on it is known. -/
theorem set_same {ts : List AV} {d : Nat} {x : AV} (h : ts[d]? = some x) : ts.set d x = ts := by
  apply List.ext_getElem?
  intro i
  by_cases hi : d = i
  · subst hi
    have : d < ts.length := by
      rcases Nat.lt_or_ge d ts.length with h' | h'
      · exact h'
      · rw [List.getElem?_eq_none h'] at h; simp at h
    simp [this]
    rw [List.getElem?_eq_getElem this] at h
    simpa using h.symm
  · simp [List.getElem?_set_ne hi]

theorem w_know {step : Oper → St → (St → Prop) → Prop} {d : Nat} {t : Bool} (hd : s.tmps[d]? = some (.bool t))
    (h1 : t = true → wOps step ops (o :: rest) ⟨s.tmps.set d (.bool true), s.heap⟩ K) (h2 : t = false → wOps step ops (o :: rest) ⟨s.tmps.set d (.bool false), s.heap⟩ K) : wOps step ops (o :: rest) s K := by
  cases t with
  | true => have := h1 rfl; rwa [set_same hd] at this
  | false => have := h2 rfl; rwa [set_same hd] at this

/-- A guard that is not decided yet. -/
theorem w_guard {step : Oper → St → (St → Prop) → Prop} {j : Nat} {want : Bool} {d : Nat} {t : Bool} (hg : o.guard = some (j, want)) (hj : dstOf ops j = some d) (hd : s.tmps[d]? = some (.bool t))
    (h1 : t = true → wOps step ops (o :: rest) ⟨s.tmps.set d (.bool true), s.heap⟩ K) (h2 : t = false → wOps step ops (o :: rest) ⟨s.tmps.set d (.bool false), s.heap⟩ K) : wOps step ops (o :: rest) s K := w_know hd h1 h2

theorem a_pick (hg : awanted ops s.tmps o = some true) {c a b : Operand} (ho : o.op = .pick c a b) {t : Bool} (hc : s.eval c = .bool t) {x : AV} (hx : (match t with | true => s.eval a | false => s.eval b) = x) {ts : List AV} (ht : putT s.tmps o.dst x = ts)
    (h : wOps (stepA P Inv) ops rest ⟨ts, s.heap⟩ K) : wOps (stepA P Inv) ops (o :: rest) s K := by
  unfold wOps
  rw [hg]
  refine both_true ?_
  unfold stepA
  simp only [ho, hc]
  subst hx; subst ht
  cases t with
  | true => exact both_true h
  | false => exact both_false h

theorem f_pick (hg : awanted ops s.tmps o = some true) {c a b : Operand} (ho : o.op = .pick c a b) {t : Bool} (hc : s.eval c = .bool t) {x : AV} (hx : (match t with | true => s.eval a | false => s.eval b) = x) {ts : List AV} (ht : putT s.tmps o.dst x = ts)
    (h : wOps (stepF P Inv) ops rest ⟨ts, s.heap⟩ K) : wOps (stepF P Inv) ops (o :: rest) s K := by
  unfold wOps
  rw [hg]
  refine both_true ?_
  unfold stepF
  simp only [ho, hc]
  subst hx; subst ht
  cases t with
  | true => exact both_true h
  | false => exact both_false h

/-- A call by a contract, of plain data that is handed on. -/
theorem a_call (hg : awanted ops s.tmps o = some true) {c : Call} (ho : o.op = .call c) {fo : Operand} (hcal : c.callee = .value fo) {g : FuncId} {args args' : List AV} (hct : callTarget s c = some (g, args)) (hm : mapO (resolve s.heap rfuel) args = some args') {r : AV} (hgood : Good P Inv g args' r)
    {ts : List AV} (ht : putT s.tmps o.dst r = ts) {H : List Box} (hH : afterCall s.heap args r = H) (h : wOps (stepA P Inv) ops rest ⟨ts, H⟩ K) : wOps (stepA P Inv) ops (o :: rest) s K := by
  unfold wOps
  rw [hg]
  refine both_true ?_
  unfold stepA
  simp only [ho, hcal]
  refine callK_good hct hm hgood ?_
  rw [ht, hH]; exact h

theorem f_call (hg : awanted ops s.tmps o = some true) {c : Call} (ho : o.op = .call c) {fo : Operand} (hcal : c.callee = .value fo) {g : FuncId} {args args' : List AV} (hct : callTarget s c = some (g, args)) (hm : mapO (resolve s.heap rfuel) args = some args') {r : AV} (hgood : Good P Inv g args' r)
    {ts : List AV} (ht : putT s.tmps o.dst r = ts) {H : List Box} (hH : afterCall s.heap args r = H) (h : wOps (stepF P Inv) ops rest ⟨ts, H⟩ K) : wOps (stepF P Inv) ops (o :: rest) s K := by
  unfold wOps
  rw [hg]
  refine both_true ?_
  unfold stepF
  simp only [ho, hcal]
  refine callF_good hct hm hgood ?_
  rw [ht, hH]; exact h

variable {Q : Exit → St → Prop}

theorem w_region {id : Nat} {l : List Oper} (h : wOps (stepA P Inv) l.toArray l s (Q .normal)) : W P Inv (.region id l.toArray false) s Q := by
  unfold W wReg
  simpa using h

theorem w_draw {id : Nat} {l : List Oper} (m : Nat) (hm : m ≤ l.toArray.size) (hok : regOk l.toArray m = true) (h : wOps (stepF P Inv) l.toArray (l.take m) s fun s1 => wOps (stepA P Inv) l.toArray (l.drop m) s1 (Q .normal)) : W P Inv (.region id l.toArray true) s Q := by
  unfold W wReg
  simp only [if_true]
  exact ⟨m, hm, hok, by simpa using h⟩

theorem w_seq {a b : Code} (h : W P Inv a s (thenQ (fun s' => W P Inv b s' Q) Q)) : W P Inv (.seq a b) s Q := h
theorem w_then {next : St → Prop} (h : next s) : thenQ next Q .normal s := h
theorem w_block {id : Nat} {c : Code} (h : W P Inv c s (blockQ id Q)) : W P Inv (.block id c) s Q := h
theorem w_cond {c : Operand} {a b : Code} {t : Bool} (hc : s.eval c = .bool t) (h1 : t = true → W P Inv a s Q) (h2 : t = false → W P Inv b s Q) : W P Inv (.cond c a b) s Q := by
  unfold W
  rw [hc]
  exact ⟨h1, h2⟩
theorem w_cond_t {c : Operand} {a b : Code} (hc : s.eval c = .bool true) (h : W P Inv a s Q) : W P Inv (.cond c a b) s Q := w_cond hc (fun _ => h) (fun e => by simp at e)
theorem w_cond_f {c : Operand} {a b : Code} (hc : s.eval c = .bool false) (h : W P Inv b s Q) : W P Inv (.cond c a b) s Q := w_cond hc (fun e => by simp at e) (fun _ => h)
theorem w_exit {id : Nat} (h : Q (.exit id) s) : W P Inv (.exit id) s Q := h
theorem w_ret (h : Q .ret s) : W P Inv .ret s Q := h
theorem w_skip (h : Q .normal s) : W P Inv .skip s Q := h

/-- A loop, whose round is walked. -/
theorem w_loop (hmx : P.follows .mixedOrders = true) (hIo : InvOk Inv) {c : Code} (I : St → Prop) (μ : St → Nat) (live : List Nat) (k : Nat) (h0 : keeps live k s = true) (h1 : I (forget live k s))
    (round : ∀ s, I s → W P Inv c s (thenQ (fun s' => keeps live k s' = true ∧ I (forget live k s') ∧ μ (forget live k s') < μ s) Q)) : W P Inv (.loop c) s Q :=
  sem_loop I μ live k h0 h1 fun s hs => W_sound hmx hIo c s _ (round s hs)

end
end Go.Sim
