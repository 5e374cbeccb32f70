/- Code: what a body does from an abstract state; contracts of functions out of their bodies. -/
import Derived.Test.YtkoepgogaojgmaaDoorSimN
import Derived.LoopN
set_option linter.unusedVariables false
set_option linter.unusedSimpArgs false
set_option linter.unnecessarySimpa false
namespace Go.Sim
open Go.RowKit

mutual
/-- It names boxes below 'k' alone. -/
def AV.under (k : Nat) : AV → Bool
  | .agg cs => AV.unders k cs
  | .list _ xs => AV.unders k xs
  | .eptr _ xs _ _ => AV.unders k xs
  | .own id _ _ _ => decide (id < k)
  | .osl id _ _ _ => decide (id < k)
  | .func _ cs => AV.unders k cs
  | .tuple vs => AV.unders k vs
  | .top => true
  | .bool _ => true
  | .int _ _ => true
  | .str _ => true
  | .nils => true
  | .nilptr => true
  | .nilfn => true
  | .gptr _ => true
def AV.unders (k : Nat) : List AV → Bool
  | [] => true
  | x :: xs => AV.under k x && AV.unders k xs
end

theorem unders_eq (k : Nat) : ∀ xs : List AV, AV.unders k xs = xs.all (AV.under k)
  | [] => by simp [AV.unders]
  | x :: xs => by simp [AV.unders, unders_eq k xs]

theorem unders_getD {k : Nat} {xs : List AV} (h : AV.unders k xs = true) (i : Nat) : (xs.getD i .top).under k = true := by
  rw [unders_eq, List.all_eq_true] at h
  by_cases hi : i < xs.length
  · simp only [List.getD_eq_getElem?_getD, List.getElem?_eq_getElem hi, Option.getD_some]; exact h _ (List.getElem_mem _)
  · simp [List.getD_eq_getElem?_getD, List.getElem?_eq_none (Nat.le_of_not_lt hi), AV.under]

theorem under_cells {k : Nat} {x : AV} (h : x.under k = true) : AV.unders k x.cells = true := by
  cases x <;> first | (simpa [AV.under, AV.cells] using h) | (simp [AV.cells, AV.unders, h])

def MBelow (M : Nat → Option MB) (k : Nat) : Nat → Option MB := fun i => if i < k then M i else none

theorem Rel.cut {w : World} {A : Nat → Prop} {M : Nat → Option MB} {k : Nat} {v : Value} {x : AV} (h : Rel w A M v x) : x.under k = true → Rel w A (MBelow M k) v x := by
  induction h with
  | top v => intro _; exact .top v
  | bool b => intro _; exact .bool b
  | int k n => intro _; exact .int k n
  | str s => intro _; exact .str s
  | agg vs cs h hr ih => intro hp; exact .agg vs cs h fun i hi => ih i hi (unders_getD (by simpa [AV.under] using hp) i)
  | nils => intro _; exact .nils
  | list0 a cap sz => intro _; exact .list0 a cap sz
  | list b off cap sz xs val ha hb hne hcap hsz hc hr ih =>
    intro hp
    exact .list b off cap sz xs val ha hb hne hcap hsz hc fun i j hi hj => ih i j hi hj (unders_getD (under_cells (unders_getD (by simpa [AV.under] using hp) i)) j)
  | eptr b off sz xs i0 j0 val ha hb hi hsz hc hr ih =>
    intro hp
    exact .eptr b off sz xs i0 j0 val ha hb hi hsz hc fun i j hi hj => ih i j hi hj (unders_getD (under_cells (unders_getD (by simpa [AV.under] using hp) i)) j)
  | own v id ver i j m hm hv h1 he =>
    intro hp
    have hlt : id < k := by simpa [AV.under] using hp
    exact .own v id ver i j m (by simp [MBelow, hlt, hm]) hv h1 he
  | osl v id ver off len m hm hv h1 he =>
    intro hp
    have hlt : id < k := by simpa [AV.under] using hp
    exact .osl v id ver off len m (by simp [MBelow, hlt, hm]) hv h1 he
  | nilptr => intro _; exact .nilptr
  | func f vs cs h hr ih => intro hp; exact .func f vs cs h fun i hi => ih i hi (unders_getD (by simpa [AV.under] using hp) i)
  | nilfn => intro _; exact .nilfn
  | tuple vs cs h hr ih => intro hp; exact .tuple vs cs h fun i hi => ih i hi (unders_getD (by simpa [AV.under] using hp) i)
  | gptr g => intro _; exact .gptr g

/-- The state, but for temporaries that are not named in 'live' and boxes from 'k' on. -/
def forgetT (live : List Nat) : Nat → List AV → List AV
  | _, [] => []
  | i, x :: xs => (if live.contains i = true then x else .top) :: forgetT live (i + 1) xs

def forget (live : List Nat) (k : Nat) (s : St) : St := ⟨forgetT live 0 s.tmps, s.heap.take k⟩

/-- What is kept names nothing that is forgotten. -/
def keeps (live : List Nat) (k : Nat) (s : St) : Bool := AV.unders k (forgetT live 0 s.tmps) && (s.heap.take k).all fun bx => AV.unders k bx.xs

theorem forgetT_length (live : List Nat) : ∀ (i : Nat) (xs : List AV), (forgetT live i xs).length = xs.length
  | _, [] => rfl
  | i, x :: xs => by simp [forgetT, forgetT_length live (i + 1) xs]

theorem forgetT_getD (live : List Nat) : ∀ (xs : List AV) (i t : Nat), (forgetT live i xs).getD t .top = xs.getD t .top ∨ (forgetT live i xs).getD t .top = .top
  | [], i, t => by simp [forgetT]
  | x :: xs, i, t => by
    cases t with
    | zero => simp only [forgetT, List.getD_cons_zero]; split <;> simp
    | succ t => simpa [forgetT] using forgetT_getD live xs (i + 1) t

theorem SR.forget {w0 w : World} {A0 A : Nat → Prop} {M : Nat → Option MB} {s : St} {a : Act} (h : SR w0 A0 w A M s a) {live : List Nat} {k : Nat} (hk : keeps live k s = true) : SR w0 A0 w A (MBelow M k) (forget live k s) a := by
  simp only [keeps, Bool.and_eq_true] at hk
  obtain ⟨hk1, hk2⟩ := hk
  refine ⟨h.base, h.outer, by simp [Sim.forget, forgetT_length, h.size], fun t ht => ?_, ⟨?_, ?_, h.heap.lt⟩, h.defers⟩
  · simp only [Sim.forget, forgetT_length] at ht ⊢
    have hb := unders_getD hk1 t
    rcases forgetT_getD live s.tmps 0 t with e | e
    · rw [e] at hb ⊢; exact (h.tmps t ht).cut hb
    · rw [e]; exact .top _
  · intro id m hm
    have hid : id < k := by
      rcases Nat.lt_or_ge id k with h' | h'
      · exact h'
      · simp [MBelow, show ¬ id < k by omega] at hm
    have hm' : M id = some m := by simpa [MBelow, hid] using hm
    obtain ⟨bx, h1, h2⟩ := h.heap.box id m hm'
    have hget : (s.heap.take k)[id]? = some bx := by rw [List.getElem?_take, if_pos hid]; exact h1
    refine ⟨bx, hget, ?_⟩
    obtain ⟨c, g1, g2, g3⟩ := h2.cells
    have hbx := (List.all_eq_true.1 hk2) bx (List.mem_of_getElem? hget)
    exact ⟨h2.ver, h2.sz, h2.ty, h2.capm, h2.fits, h2.low, h2.lt, h2.ok, ⟨c, g1, g2, fun i j hi hj => (g3 i j hi hj).cut (unders_getD (under_cells (unders_getD hbx i)) j)⟩, h2.guard⟩
  · intro id id' m m' h1 h2 he
    have g1 : M id = some m := by
      by_cases hid : id < k
      · simpa [MBelow, hid] using h1
      · simp [MBelow, hid] at h1
    have g2 : M id' = some m' := by
      by_cases hid : id' < k
      · simpa [MBelow, hid] using h2
      · simp [MBelow, hid] at h2
    exact h.heap.inj id id' m m' g1 g2 he

/-! ### What a piece of code does -/

/-- From the abstract state 's' the code comes to one of its exits, with a state of which 'Q' holds. -/
def Does (P : Program) (Inv : World → Prop) (c : Code) (Q : Exit → St → Prop) (s : St) : Prop :=
  ∀ (w0 : World) (A0 : Nat → Prop) (w : World) (A : Nat → Prop) (M : Nat → Option MB) (a : Act) (Qc : Exit → Act → World → Prop), Inv w0 → SR w0 A0 w A M s a → (∀ e s' a' w', Q e s' → SOk w0 A0 s' a' w' → Qc e a' w') → c.wp P Qc a w

section rules
variable {P : Program} {Inv : World → Prop} {Q : Exit → St → Prop} {s : St}

theorem sem_mono {c : Code} {Q' : Exit → St → Prop} (h : Does P Inv c Q s) (hq : ∀ e s, Q e s → Q' e s) : Does P Inv c Q' s :=
  fun w0 A0 w A M a Qc hI hs hQ => h w0 A0 w A M a Qc hI hs fun e s' a' w' hqs => hQ e s' a' w' (hq e s' hqs)

theorem sem_skip (h : Q .normal s) : Does P Inv .skip Q s := fun w0 A0 w A M a Qc hI hs hQ => wp_skip (hQ _ _ _ _ h ⟨A, M, hs⟩)
theorem sem_exit {id : Nat} (h : Q (.exit id) s) : Does P Inv (.exit id) Q s := fun w0 A0 w A M a Qc hI hs hQ => wp_exit (hQ _ _ _ _ h ⟨A, M, hs⟩)
theorem sem_ret (h : Q .ret s) : Does P Inv .ret Q s := fun w0 A0 w A M a Qc hI hs hQ => wp_ret (hQ _ _ _ _ h ⟨A, M, hs⟩)

def thenQ (next : St → Prop) (Q : Exit → St → Prop) : Exit → St → Prop
  | .normal, s => next s
  | e, s => Q e s

def blockQ (id : Nat) (Q : Exit → St → Prop) : Exit → St → Prop
  | .exit id', s => if id' = id then Q .normal s else Q (.exit id') s
  | e, s => Q e s

theorem sem_seq {x y : Code} (h : Does P Inv x (thenQ (Does P Inv y Q) Q) s) : Does P Inv (.seq x y) Q s := fun w0 A0 w A M a Qc hI hs hQ =>
  wp_seq (h w0 A0 w A M a _ hI hs fun e s' a' w' hq hok => by
    cases e with
    | normal => obtain ⟨A', M', hs'⟩ := hok; exact hq w0 A0 w' A' M' a' Qc hI hs' hQ
    | _ => exact hQ _ _ _ _ hq hok)

theorem sem_block {id : Nat} {c : Code} (h : Does P Inv c (blockQ id Q) s) : Does P Inv (.block id c) Q s := fun w0 A0 w A M a Qc hI hs hQ =>
  wp_block (h w0 A0 w A M a _ hI hs fun e s' a' w' hq hok => by
    cases e with
    | exit id' =>
      simp only [blockQ] at hq
      simp only [Exit.inBlock]
      split <;> rename_i hid <;> simp only [hid, if_true, if_false] at hq
      · exact hQ _ _ _ _ hq hok
      · exact hQ _ _ _ _ hq hok
    | _ => exact hQ _ _ _ _ hq hok)

theorem sem_cond {c : Operand} {x y : Code} {t : Bool} (hc : s.eval c = .bool t) (ht : t = true → Does P Inv x Q s) (hf : t = false → Does P Inv y Q s) : Does P Inv (.cond c x y) Q s := fun w0 A0 w A M a Qc hI hs hQ => by
  have := hs.eval c
  rw [hc] at this
  exact wp_cond_split this.bool_inv (fun h => ht h w0 A0 w A M a Qc hI hs hQ) (fun h => hf h w0 A0 w A M a Qc hI hs hQ)

theorem sem_region (hIo : InvOk Inv) {id : Nat} {ops : Array Oper} {s' : St} (hp : Path (OpA P Inv) ops ops.toList s s') (h : Q .normal s') : Does P Inv (.region id ops false) Q s := fun w0 A0 w A M a Qc hI hs hQ =>
  region_seq hIo hI hp hs fun a' w' hok => hQ _ _ _ _ h hok

theorem sem_draw (hmx : P.follows .mixedOrders = true) (hIo : InvOk Inv) {id : Nat} {ops : Array Oper} {s1 s' : St} (m : Nat) (hok : regOk ops m = true) (hm : m ≤ ops.size) (hF : Path (OpF P Inv) ops (ops.toList.take m) s s1) (hT : Path (OpA P Inv) ops (ops.toList.drop m) s1 s') (h : Q .normal s') : Does P Inv (.region id ops true) Q s := fun w0 A0 w A M a Qc hI hs hQ =>
  region_draw hmx hIo hI hok hm hF hT hs fun a' w' hok => hQ _ _ _ _ h hok

/-- The same state, or less of it. -/
def Weak (s s' : St) : Prop := s' = s ∨ ∃ live k, keeps live k s = true ∧ s' = forget live k s

theorem SR.weak {w0 w : World} {A0 A : Nat → Prop} {M : Nat → Option MB} {s s' : St} {a : Act} (h : SR w0 A0 w A M s a) (hw : Weak s s') : ∃ M', SR w0 A0 w A M' s' a := by
  rcases hw with rfl | ⟨live, k, hk, rfl⟩
  · exact ⟨M, h⟩
  · exact ⟨_, h.forget hk⟩

/-- A loop: 'I n' holds at a round's head from which fewer than 'n' rounds follow. -/
theorem sem_loopN {c : Code} (I : Nat → St → Prop) {n0 : Nat} {s0 : St} (hw : Weak s s0) (h1 : I n0 s0)
    (round : ∀ n s, I n s → Does P Inv c (thenQ (fun s' => ∃ n' s'', n' < n ∧ Weak s' s'' ∧ I n' s'') Q) s) : Does P Inv (.loop c) Q s := fun w0 A0 w A M a Qc hI hs hQ => by
  intro b k cs
  have key : ∀ n s, I n s → ∀ w A M a, SR w0 A0 w A M s a → ∃ e a' w', Qc e a' w' ∧ Arrives P (lone (b.at a (.code c :: .inLoop c :: k)) cs w) b k cs e a' w' := by
    intro n
    induction n using Nat.strongRecOn with
    | _ n ih =>
      intro s hIs w A M a hs
      obtain ⟨e, a₁, w₁, hq, harr⟩ := round n s hIs w0 A0 w A M a (fun e a' w' => match e with | .normal => ∃ n' s'', n' < n ∧ I n' s'' ∧ SOk w0 A0 s'' a' w' | e => Qc e a' w') hI hs (fun e s' a' w' hq hok => by
        cases e with
        | normal =>
          obtain ⟨A', M', hs'⟩ := hok
          obtain ⟨n', s'', k1, k2, k3⟩ := hq
          obtain ⟨M'', hs''⟩ := hs'.weak k2
          exact ⟨n', s'', k1, k3, A', M'', hs''⟩
        | _ => exact hQ _ _ _ _ hq hok) b (.inLoop c :: k) cs
      cases e with
      | normal =>
        obtain ⟨n', s'', k1, k2, A', M', hs''⟩ := hq
        obtain ⟨e₂, a₂, w₂, hq₂, harr₂⟩ := ih n' k1 s'' k2 w₁ A' M' a₁ hs''
        exact ⟨e₂, a₂, w₂, hq₂, .of_steps (Steps.trans harr (.one step_inLoop)) harr₂⟩
      | exit id => exact ⟨_, a₁, w₁, hq, .pass (x := .inLoop c) rfl (fun _ _ => .inl (by simp)) harr⟩
      | goto l => exact ⟨_, a₁, w₁, hq, .pass (x := .inLoop c) rfl (fun _ _ => .inl (by simp)) harr⟩
      | ret => exact ⟨_, a₁, w₁, hq, .pass (x := .inLoop c) rfl (fun _ _ => .inl (by simp)) harr⟩
      | panic ch => exact ⟨_, a₁, w₁, hq, .pass (x := .inLoop c) rfl (fun _ _ => .inl (by simp)) harr⟩
      | outgrown => exact ⟨_, a₁, w₁, hq, .pass (x := .inLoop c) rfl (fun _ _ => .inl (by simp)) harr⟩
  obtain ⟨M', hs'⟩ := hs.weak hw
  obtain ⟨e, a', w', hq, harr⟩ := key n0 s0 h1 w A M' a hs'
  exact ⟨e, a', w', hq, .of_steps (.one step_loop) harr⟩

/-- A loop by what holds at each round's head, and a measure. -/
theorem sem_loop {c : Code} (I : St → Prop) (μ : St → Nat) (live : List Nat) (k : Nat) (h0 : keeps live k s = true) (h1 : I (forget live k s))
    (round : ∀ s, I s → Does P Inv c (thenQ (fun s' => keeps live k s' = true ∧ I (forget live k s') ∧ μ (forget live k s') < μ s) Q) s) : Does P Inv (.loop c) Q s :=
  sem_loopN (fun n s => I s ∧ μ s = n) (.inr ⟨live, k, h0, rfl⟩) ⟨h1, rfl⟩ fun n s ⟨hs, hn⟩ => sem_mono (round s hs) fun e s' h => by
    cases e with
    | normal => exact ⟨_, _, by rw [← hn]; exact h.2.2, .inr ⟨live, k, h.1, rfl⟩, h.2.1, rfl⟩
    | _ => exact h

end rules

/-! ### A function's results -/

def resVal (P : Program) (s : St) : ResultVar → Option AV
  | .tmp t => some (s.tmps.getD t .top)
  | .cell a t => match tinfo P t with
    | some ti => absLoadAt s.heap ti (s.tmps.getD a .top)
    | none => none

def resAll (P : Program) (s : St) : List ResultVar → Option (List AV)
  | [] => some []
  | r :: rs => match resVal P s r, resAll P s rs with
    | some x, some xs => match resolve s.heap rfuel x with
      | some y => some (y :: xs)
      | none => none
    | _, _ => none

def oneOrTuple : List AV → AV
  | [x] => x
  | xs => .tuple xs

/-- The function's result, as its caller may have it. -/
def resultOf (P : Program) (rs : List ResultVar) (s : St) : Option AV :=
  match resAll P s rs with
  | some xs => some (oneOrTuple xs)
  | none => none

def resF (tmps : Array Value) : ResultVar → Go.Sem Value
  | .tmp t => pure (tmps.getD t undef)
  | .cell b t => do loadVar t (← asAddr (tmps.getD b undef))

theorem results_eq (fn : Func) (tmps : Array Value) : results fn tmps = (do let vs ← fn.results.mapM (resF tmps); pure (if h : vs.size = 1 then vs[0] else .tuple vs)) := by
  unfold results
  congr 1

section
variable {P : Program} {Inv : World → Prop}

theorem resVal_run {w0 w : World} {A0 A : Nat → Prop} {M : Nat → Option MB} {s : St} {a : Act} (hs : SR w0 A0 w A M s a) {r : ResultVar} {x : AV} (h : resVal P s r = some x) :
    ∃ v, (resF a.tmps r).run P w = .ok v w ∧ Rel w A M v x := by
  cases r with
  | tmp t =>
    simp only [resVal, Option.some.injEq] at h
    have := hs.eval (.tmp t)
    simp only [St.eval, Act.eval] at this
    rw [h] at this
    exact ⟨_, rfl, this⟩
  | cell b t =>
    simp only [resVal] at h
    split at h
    case h_2 => simp at h
    rename_i ti hti
    have hb := hs.eval (.tmp b)
    simp only [St.eval, Act.eval] at hb
    obtain ⟨u, hu, hru⟩ := loadAt_sound hti hs.heap hb h
    refine ⟨u, ?_, hru⟩
    have hp : ∃ ad, a.tmps.getD b undef = .pointer (some ad) := by
      unfold absLoadAt at h
      split at h
      · rename_i hx; rw [hx] at hb; obtain ⟨b', o', e, _⟩ := eptr_move hb; exact ⟨_, e⟩
      · rename_i id ver i j hx
        rw [hx] at hb
        split at h
        case h_2 => simp at h
        rename_i bx hbx
        obtain ⟨m, _, _, e⟩ := own_at hs.heap hb hbx
        exact ⟨_, e⟩
      · simp at h
    obtain ⟨ad, hp⟩ := hp
    show (do loadVar t (← asAddr (a.tmps.getD b undef)) : Go.Sem Value).run P w = _
    rw [hp] at hu ⊢
    simpa [Instr.loadAt, Instr.sureAddr, asAddr] using hu

theorem resAll_run {w0 w : World} {A0 A : Nat → Prop} {M : Nat → Option MB} {s : St} {a : Act} (hs : SR w0 A0 w A M s a) (hA0 : ∀ b, A0 b → b < w0.heap.size) : ∀ {rs : List ResultVar} {xs : List AV}, resAll P s rs = some xs →
    ∃ vs, (rs.mapM (resF a.tmps)).run P w = .ok vs w ∧ RC w A0 noBox vs xs
  | [], xs, h => by
    simp only [resAll, Option.some.injEq] at h; subst h
    exact ⟨[], by simp, rfl, by simp⟩
  | r :: rs, xs, h => by
    unfold resAll at h
    split at h
    case h_2 => simp at h
    rename_i x ys hx hys
    split at h
    case h_2 => simp at h
    rename_i y hy
    simp only [Option.some.injEq] at h; subst h
    obtain ⟨v, hv, hrv⟩ := resVal_run hs hx
    obtain ⟨vs, hvs, hrc⟩ := resAll_run hs hA0 hys
    refine ⟨v :: vs, ?_, ?_⟩
    · rw [List.mapM_cons]
      simp only [Sem.run_bind, hv, hvs, Result.andThen_ok, Sem.run_pure]
    · have hy' : Rel w A0 noBox v y := resolve_sound hs.heap (fun b hb h => (hs.outer b (hA0 b h)).2 h) rfuel v x y hrv hy fun id _ m hm hA => by
        obtain ⟨bx, _, hbat⟩ := hs.heap.box id m hm
        have := hbat.low
        have := hA0 _ hA
        omega
      refine ⟨by simp [hrc.1], fun i hi => ?_⟩
      cases i with
      | zero => simpa using hy'
      | succ i => have := hrc.2 i (by simp at hi; omega); simpa using this

theorem results_run {w0 w : World} {A0 A : Nat → Prop} {M : Nat → Option MB} {s : St} {a : Act} (hs : SR w0 A0 w A M s a) (hA0 : ∀ b, A0 b → b < w0.heap.size) {fn : Func} {r : AV} (h : resultOf P fn.results.toList s = some r) :
    ∃ v, (results fn a.tmps).run P w = .ok v w ∧ Rel w A0 noBox v r := by
  unfold resultOf at h
  split at h
  case h_2 => simp at h
  rename_i xs hxs
  simp only [Option.some.injEq] at h; subst h
  obtain ⟨vs, hvs, hrc⟩ := resAll_run (P := P) hs hA0 hxs
  refine ⟨if h : vs.toArray.size = 1 then vs.toArray[0] else .tuple vs.toArray, ?_, ?_⟩
  · rw [results_eq, Array.mapM_eq_mapM_toList]
    simp only [Sem.run_bind, Sem.run_map, hvs, Result.andThen_ok, Sem.run_pure]
  · have hl := hrc.1
    have hr := hrc.2
    match vs, xs, hl, hr with
    | [v], [x], _, hr => simpa [oneOrTuple] using hr 0 (by simp)
    | [], [], _, _ => simpa [oneOrTuple] using Rel.tuple (w := w) (A := A0) (M := noBox) #[] [] rfl (by simp)
    | v1 :: v2 :: vs, x1 :: x2 :: xs, hl, hr =>
      have hne : ¬ (v1 :: v2 :: vs).toArray.size = 1 := by simp
      rw [dif_neg hne]
      simp only [oneOrTuple]
      refine .tuple _ _ (by simpa using hl) fun i hi => ?_
      rw [getD_toArray]
      exact hr i hi

/-- A CONTRACT OUT OF THE BODY. -/
theorem good_of (hIo : InvOk Inv) {f : FuncId} {fn : Func} {c : Code} {args : List AV} {r : AV} (hf : P.funcs[f]? = some fn) (hb : fn.body = some c) (hname : (fn.name == "runtime.NumGoroutine") = false)
    (h : Does P Inv c (fun e s => (e = .ret ∨ e = .normal) ∧ resultOf P fn.results.toList s = some r) ⟨args ++ List.replicate (fn.ntmps - args.length) (.tuple []), []⟩) : Good P Inv f args r := by
  refine ⟨⟨fn, hf, by rw [hb]; rfl, hname⟩, fun w A vs hI hA hrc => ?_⟩
  refine calls_of_wp hf hb ?_
  refine h w A w A noBox _ _ hI ⟨Below.refl _ _, fun _ _ => Iff.rfl, ?_, fun t ht => ?_, ⟨fun id m hm => by simp [noBox] at hm, fun _ _ _ _ h => by simp [noBox] at h, hA⟩, rfl⟩ ?_
  · simp [hrc.1]
  · simp only [List.length_append, List.length_replicate] at ht
    have hl := hrc.1
    by_cases hta : t < args.length
    · have e1 : (vs.toArray ++ Array.replicate (fn.ntmps - vs.toArray.size) undef).getD t undef = vs.getD t undef := by
        have : t < vs.length := by omega
        simp [List.getD_eq_getElem?_getD, Array.getElem?_append, this]
      have e2 : (args ++ List.replicate (fn.ntmps - args.length) (AV.tuple [])).getD t .top = args.getD t .top := by
        simp [List.getD_eq_getElem?_getD, List.getElem?_append, hta]
      rw [e1, e2]; exact hrc.2 t hta
    · have h1 : ¬ t < vs.length := by omega
      have e1 : (vs.toArray ++ Array.replicate (fn.ntmps - vs.toArray.size) undef).getD t undef = undef := by
        have h2 : t - vs.length < fn.ntmps - vs.length := by omega
        simp [Array.getElem?_append, h1, h2]
      have e2 : (args ++ List.replicate (fn.ntmps - args.length) (AV.tuple [])).getD t .top = .tuple [] := by
        have h2 : t - args.length < fn.ntmps - args.length := by omega
        simp [List.getD_eq_getElem?_getD, List.getElem?_append, hta, h2]
      rw [e1, e2]
      exact .tuple #[] [] rfl (by simp)
  · rintro e s' a' w' ⟨he, hr⟩ ⟨A', M', hs'⟩
    obtain ⟨v, hv, hrel⟩ := results_run (P := P) hs' hA hr
    have : bodyPost P fn (fun e w' => ∃ v, e = .returned v ∧ Below w.heap.size w w' ∧ Rel w' A noBox v r) .ret a' w' := ⟨hs'.defers, v, hv, v, rfl, hs'.base, hrel⟩
    rcases he with rfl | rfl <;> exact this

end
end Go.Sim
