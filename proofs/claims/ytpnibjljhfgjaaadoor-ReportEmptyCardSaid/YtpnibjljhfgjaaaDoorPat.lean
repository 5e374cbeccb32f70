/- Patterns of abstract values: each takes a value apart and says that it was put together so. -/
import Derived.Test.YtpnibjljhfgjaaaDoorSimT
set_option linter.unusedVariables false
set_option linter.unusedSimpArgs false
namespace Go.Sim
open Go.RowKit
variable {α β γ : Type}

structure Pat (α β : Type) where
  enc : β → α
  dec : α → Option β
  ok : ∀ a b, dec a = some b → a = enc b

def pAny : Pat α α := ⟨fun b => b, some, fun a b h => by simpa using h⟩

def pInt (k : IntKind) : Pat AV Int := ⟨.int k, fun v => match v with
  | .int k' n => match decide (k' = k) with
    | true => some n
    | false => none
  | _ => none, fun v n h => by
  split at h
  · split at h
    · rename_i hk; simp only [Option.some.injEq] at h; rw [of_decide_eq_true hk, h]
    · simp at h
  · simp at h⟩

def pIntL (k : IntKind) (m : Int) : Pat AV Unit := ⟨fun _ => .int k m, fun v => match v with
  | .int k' n => match decide (k' = k) && decide (n = m) with
    | true => some ()
    | false => none
  | _ => none, fun v n h => by
  split at h
  · split at h
    · rename_i hk; simp only [Bool.and_eq_true] at hk; rw [of_decide_eq_true hk.1, of_decide_eq_true hk.2]
    · simp at h
  · simp at h⟩

def pStr : Pat AV (List UInt8) := ⟨.str, fun v => match v with
  | .str s => some s
  | _ => none, fun v n h => by
  split at h
  · simp only [Option.some.injEq] at h; rw [h]
  · simp at h⟩

def pBool : Pat AV Bool := ⟨.bool, fun v => match v with
  | .bool s => some s
  | _ => none, fun v n h => by
  split at h
  · simp only [Option.some.injEq] at h; rw [h]
  · simp at h⟩

def pList (sz : Nat) (q : Pat (List AV) β) : Pat AV β := ⟨fun b => .list sz (q.enc b), fun v => match v with
  | .list z xs => match Nat.beq z sz with
    | true => q.dec xs
    | false => none
  | _ => none, fun v n h => by
  split at h
  · split at h
    · rename_i hz; rw [Nat.eq_of_beq_eq_true hz, q.ok _ _ h]
    · simp at h
  · simp at h⟩

def pOsl (id ver off : Nat) : Pat AV Nat := ⟨.osl id ver off, fun v => match v with
  | .osl i e o n => match Nat.beq i id && (Nat.beq e ver && Nat.beq o off) with
    | true => some n
    | false => none
  | _ => none, fun v n h => by
  split at h
  · split at h
    · rename_i hz
      simp only [Bool.and_eq_true] at hz
      simp only [Option.some.injEq] at h
      rw [Nat.eq_of_beq_eq_true hz.1, Nat.eq_of_beq_eq_true hz.2.1, Nat.eq_of_beq_eq_true hz.2.2, h]
    · simp at h
  · simp at h⟩

/-- With an offset that is not known. -/
def pOslO (id ver : Nat) : Pat AV (Nat × Nat) := ⟨fun p => .osl id ver p.1 p.2, fun v => match v with
  | .osl i e o n => match Nat.beq i id && Nat.beq e ver with
    | true => some (o, n)
    | false => none
  | _ => none, fun v n h => by
  split at h
  · split at h
    · rename_i hz
      simp only [Bool.and_eq_true] at hz
      simp only [Option.some.injEq] at h
      rw [Nat.eq_of_beq_eq_true hz.1, Nat.eq_of_beq_eq_true hz.2, ← h]
    · simp at h
  · simp at h⟩

def pOwn (id ver i j : Nat) : Pat AV Unit := ⟨fun _ => .own id ver i j, fun v => match v with
  | .own a b c d => match Nat.beq a id && (Nat.beq b ver && (Nat.beq c i && Nat.beq d j)) with
    | true => some ()
    | false => none
  | _ => none, fun v n h => by
  split at h
  · split at h
    · rename_i hz
      simp only [Bool.and_eq_true] at hz
      rw [Nat.eq_of_beq_eq_true hz.1, Nat.eq_of_beq_eq_true hz.2.1, Nat.eq_of_beq_eq_true hz.2.2.1, Nat.eq_of_beq_eq_true hz.2.2.2]
    · simp at h
  · simp at h⟩

def pEptr (sz i j : Nat) (q : Pat (List AV) β) : Pat AV β := ⟨fun b => .eptr sz (q.enc b) i j, fun v => match v with
  | .eptr a xs c d => match Nat.beq a sz && (Nat.beq c i && Nat.beq d j) with
    | true => q.dec xs
    | false => none
  | _ => none, fun v n h => by
  split at h
  · split at h
    · rename_i hz
      simp only [Bool.and_eq_true] at hz
      rw [Nat.eq_of_beq_eq_true hz.1, Nat.eq_of_beq_eq_true hz.2.1, Nat.eq_of_beq_eq_true hz.2.2, q.ok _ _ h]
    · simp at h
  · simp at h⟩

def pAgg (q : Pat (List AV) β) : Pat AV β := ⟨fun b => .agg (q.enc b), fun v => match v with
  | .agg cs => q.dec cs
  | _ => none, fun v n h => by
  split at h
  · rw [q.ok _ _ h]
  · simp at h⟩

def pTuple (q : Pat (List AV) β) : Pat AV β := ⟨fun b => .tuple (q.enc b), fun v => match v with
  | .tuple cs => q.dec cs
  | _ => none, fun v n h => by
  split at h
  · rw [q.ok _ _ h]
  · simp at h⟩

def pFunc (f : Nat) (q : Pat (List AV) β) : Pat AV β := ⟨fun b => .func f (q.enc b), fun v => match v with
  | .func g cs => match Nat.beq g f with
    | true => q.dec cs
    | false => none
  | _ => none, fun v n h => by
  split at h
  · split at h
    · rename_i hz; rw [Nat.eq_of_beq_eq_true hz, q.ok _ _ h]
    · simp at h
  · simp at h⟩

def pNils : Pat AV Unit := ⟨fun _ => .nils, fun v => match v with
  | .nils => some ()
  | _ => none, fun v n h => by
  split at h
  · rfl
  · simp at h⟩

def pTop : Pat AV Unit := ⟨fun _ => .top, fun v => match v with
  | .top => some ()
  | _ => none, fun v n h => by
  split at h
  · rfl
  · simp at h⟩

def pNilptr : Pat AV Unit := ⟨fun _ => .nilptr, fun v => match v with
  | .nilptr => some ()
  | _ => none, fun v n h => by
  split at h
  · rfl
  · simp at h⟩

def pNilfn : Pat AV Unit := ⟨fun _ => .nilfn, fun v => match v with
  | .nilfn => some ()
  | _ => none, fun v n h => by
  split at h
  · rfl
  · simp at h⟩

def pNil : Pat (List α) Unit := ⟨fun _ => [], fun v => match v with
  | [] => some ()
  | _ => none, fun v n h => by
  split at h
  · rfl
  · simp at h⟩

def pCons (p : Pat α β) (q : Pat (List α) γ) : Pat (List α) (β × γ) := ⟨fun b => p.enc b.1 :: q.enc b.2, fun v => match v with
  | x :: t => match p.dec x with
    | some b => match q.dec t with
      | some c => some (b, c)
      | none => none
    | none => none
  | _ => none, fun v n h => by
  split at h
  · split at h
    · rename_i hp
      split at h
      · rename_i hq
        simp only [Option.some.injEq] at h
        subst h
        rw [p.ok _ _ hp, q.ok _ _ hq]
      · simp at h
    · simp at h
  · simp at h⟩

/-- A box by its contents. -/
def pBox (ver sz ty : Nat) (frz pm : Bool) (q : Pat (List AV) β) : Pat Box β := ⟨fun b => ⟨ver, sz, ty, q.enc b, frz, pm⟩, fun v => match v with
  | ⟨a, b, c, xs, f, p⟩ => match Nat.beq a ver && (Nat.beq b sz && (Nat.beq c ty && ((f == frz) && (p == pm)))) with
    | true => q.dec xs
    | false => none, fun v n h => by
  obtain ⟨a, b, c, xs, f, p⟩ := v
  dsimp only at h; split at h
  · rename_i hz
    simp only [Bool.and_eq_true, beq_iff_eq] at hz
    rw [Nat.eq_of_beq_eq_true hz.1, Nat.eq_of_beq_eq_true hz.2.1, Nat.eq_of_beq_eq_true hz.2.2.1, hz.2.2.2.1, hz.2.2.2.2, q.ok _ _ h]
  · simp at h⟩

/-! ### Arguments: nil is a list of nothing -/

def Sub (a b : AV) : Prop := ∀ (w : World) (A : Nat → Prop) (M : Nat → Option MB) (v : Value), Rel w A M v a → Rel w A M v b

def SubL (as bs : List AV) : Prop := as.length = bs.length ∧ ∀ i, i < as.length → Sub (as.getD i .top) (bs.getD i .top)

theorem Sub.refl (a : AV) : Sub a a := fun _ _ _ _ h => h
theorem Sub.of_eq {a b : AV} (h : a = b) : Sub a b := h ▸ Sub.refl a
theorem sub_nils (sz : Nat) : Sub .nils (.list sz []) := fun w A M v h => by
  cases h; exact .list0 _ _ _
theorem sub_agg {as bs : List AV} (h : SubL as bs) : Sub (.agg as) (.agg bs) := fun w A M v hr => by
  obtain ⟨vs, rfl, h1, h2⟩ := hr.agg_inv
  exact .agg vs bs (h1.trans h.1) fun i hi => h.2 i (h.1.symm ▸ hi) w A M _ (h2 i (h.1.symm ▸ hi))
theorem rc_sub {w : World} {A : Nat → Prop} {M : Nat → Option MB} {vs : List Value} {as bs : List AV} (h : SubL as bs) (hr : RC w A M vs as) : RC w A M vs bs :=
  ⟨hr.1.trans h.1, fun i hi => h.2 i (h.1.symm ▸ hi) w A M _ (hr.2 i (h.1.symm ▸ hi))⟩

structure SPat (β : Type) where
  enc : β → AV
  dec : AV → Option β
  ok : ∀ a b, dec a = some b → Sub a (enc b)

structure SPatL (β : Type) where
  enc : β → List AV
  dec : List AV → Option β
  ok : ∀ a b, dec a = some b → SubL a (enc b)

def sEq (p : Pat AV β) : SPat β := ⟨p.enc, p.dec, fun a b h => Sub.of_eq (p.ok a b h)⟩

def sList (sz : Nat) (q : Pat (List AV) β) : SPat β := ⟨fun b => .list sz (q.enc b), fun v => match v with
  | .nils => q.dec []
  | .list z xs => match Nat.beq z sz with
    | true => q.dec xs
    | false => none
  | _ => none, fun v n h => by
  split at h
  · rw [← q.ok _ _ h]; exact sub_nils sz
  · split at h
    · rename_i hz; rw [Nat.eq_of_beq_eq_true hz, q.ok _ _ h]; exact Sub.refl _
    · simp at h
  · simp at h⟩

def sAgg (q : SPatL β) : SPat β := ⟨fun b => .agg (q.enc b), fun v => match v with
  | .agg cs => q.dec cs
  | _ => none, fun v n h => by
  split at h
  · exact sub_agg (q.ok _ _ h)
  · simp at h⟩

def sNil : SPatL Unit := ⟨fun _ => [], fun v => match v with
  | [] => some ()
  | _ => none, fun v n h => by
  split at h
  · exact ⟨rfl, fun i hi => by simp at hi⟩
  · simp at h⟩

def sCons (p : SPat β) (q : SPatL γ) : SPatL (β × γ) := ⟨fun b => p.enc b.1 :: q.enc b.2, fun v => match v with
  | x :: t => match p.dec x with
    | some b => match q.dec t with
      | some c => some (b, c)
      | none => none
    | none => none
  | _ => none, fun v n h => by
  split at h
  · split at h
    · rename_i hp
      split at h
      · rename_i hq
        simp only [Option.some.injEq] at h
        subst h
        obtain ⟨h1, h2⟩ := q.ok _ _ hq
        refine ⟨by simp [h1], fun i hi => ?_⟩
        cases i with
        | zero => exact p.ok _ _ hp
        | succ i => exact h2 i (by simpa using hi)
      · simp at h
    · simp at h
  · simp at h⟩

/-! ### Oracles and loops by patterns -/

def ocOf (pv : SPatL β) (g : β → Bool × AV) : List AV → Option (Bool × AV) := fun xs => match pv.dec xs with
  | some b => some (g b)
  | none => none

def omOf (pv : SPatL β) (pb : Pat (List Box) γ) (g : β → γ → Bool × AV × List Box) : List AV → List Box → Option (Bool × AV × List Box) := fun xs H => match pv.dec xs with
  | some b => match pb.dec H with
    | some c => some (g b c)
    | none => none
  | none => none

def lpOf (live liveO : List Nat) (conv : List (Nat × Nat × TypeId)) (pv : Pat (List AV) β) (pb : Pat (List Box) γ) (g : β → γ → Bool × LR) : Lp := ⟨live, liveO, conv, fun xs H => match pv.dec xs with
  | some b => match pb.dec H with
    | some c => some (g b c)
    | none => none
  | none => none⟩

section
variable {P : Program} {Inv : IV}

theorem ocOk_of {n : FuncId} {pv : SPatL β} {g : β → Bool × AV} (h : ∀ b r, g b = (true, r) → Good P Inv n (pv.enc b) r) : OcOk P Inv n (ocOf pv g) := fun xs r e => by
  unfold ocOf at e; split at e
  · rename_i b hb
    simp only [Option.some.injEq] at e
    obtain ⟨h1, h2⟩ := h b r e
    exact ⟨h1, fun w A vs hi ha hr => h2 w A vs hi ha (rc_sub (pv.ok _ _ hb) hr)⟩
  · simp at e

theorem omOk_of {n : FuncId} {pv : SPatL β} {pb : Pat (List Box) γ} {g : β → γ → Bool × AV × List Box} (h : ∀ b c r H', g b c = (true, r, H') → GoodM P Inv n (pv.enc b) (pb.enc c) r H') : OmOk P Inv n (omOf pv pb g) := fun xs H r H' e => by
  unfold omOf at e; split at e
  · rename_i b hb
    split at e
    · rename_i c hc
      simp only [Option.some.injEq] at e
      rw [pb.ok _ _ hc]
      obtain ⟨h1, h2⟩ := h b c r H' e
      exact ⟨h1, fun w0 w A M vs hi hb' hR hr => h2 w0 w A M vs hi hb' hR (rc_sub (pv.ok _ _ hb) hr)⟩
    · simp at e
  · simp at e

theorem lok_of {nt : Nat} {l : Code} {live liveO : List Nat} {conv : List (Nat × Nat × TypeId)} {pv : Pat (List AV) β} {pb : Pat (List Box) γ} {g : β → γ → Bool × LR}
    (h : ∀ b c r, g b c = (true, r) → DoesL P Inv l (fun e1 s1 => e1 = r.eval.1 ∧ s1 = ⟨mkTs nt (liveO.zip r.eval.2.1), r.eval.2.2⟩) ⟨mkTs nt (live.zip (pv.enc b)), pb.enc c⟩) : LoopOk P Inv nt l (lpOf live liveO conv pv pb g) := fun vals H r e => by
  unfold lpOf at e; dsimp only at e; split at e
  · rename_i b hb
    split at e
    · rename_i c hc
      simp only [Option.some.injEq] at e
      rw [pv.ok _ _ hb, pb.ok _ _ hc]
      exact h b c r e
    · simp at e
  · simp at e
end

/-- One summary or another. -/
def lpOr (a b : Lp) : Lp := ⟨b.live, b.liveO, b.conv, fun xs H => match a.run xs H with
  | some r => some r
  | none => b.run xs H⟩

theorem lok_or {P : Program} {Inv : IV} {nt : Nat} {l : Code} {a b : Lp} (ha : LoopOk P Inv nt l a) (hb : LoopOk P Inv nt l b) (h1 : a.live = b.live) (h2 : a.liveO = b.liveO) : LoopOk P Inv nt l (lpOr a b) := fun vals H r h => by
  unfold lpOr at h
  dsimp only at h
  split at h
  · rename_i r' hr
    simp only [Option.some.injEq] at h
    subst h
    have := ha vals H r hr
    rw [h1, h2] at this
    exact this
  · exact hb vals H r h

/-- What comes of the rounds, as a summary has it. -/
theorem getD_of_isSome {x : Option α} {d : α} (h : x.isSome = true) : x = some (x.getD d) := by
  cases x with
  | none => simp at h
  | some y => rfl

end Go.Sim
