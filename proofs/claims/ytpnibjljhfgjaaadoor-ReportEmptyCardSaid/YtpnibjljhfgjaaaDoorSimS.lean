/- The executor: code run on abstract states by contracts of the functions that it calls, and that what it says holds. -/
import Derived.Test.YtpnibjljhfgjaaaDoorSimR
set_option linter.unusedVariables false
set_option linter.unusedSimpArgs false
set_option linter.unnecessarySimpa false
namespace Go.Sim
open Go.RowKit

/-! ### Handing values on, with premises -/

def mapC (r : AV → Option (Bool × AV)) : List AV → Option (Bool × List AV)
  | [] => some (true, [])
  | x :: xs => match r x with
    | some (b, y) => match mapC r xs with
      | some (c, ys) => some (b && c, y :: ys)
      | none => none
    | none => none

def resEC (r : AV → Option (Bool × AV)) : AV → Option (Bool × AV)
  | .agg cs => match mapC r cs with
    | some (b, ds) => some (b, .agg ds)
    | none => none
  | x => r x

def resC (H : List Box) : Nat → AV → Option (Bool × AV)
  | 0, x => some (x.pure, x)
  | n + 1, x => match x with
    | .agg cs => match mapC (resC H n) cs with
      | some (b, ds) => some (b, .agg ds)
      | none => none
    | .func f cs => match mapC (resC H n) cs with
      | some (b, ds) => some (b, .func f ds)
      | none => none
    | .own id ver i j => match getV H id ver with
      | some (bv, bx) => match bx.pm with
        | true => some (bv && decide (i < bx.xs.length), .eptr bx.sz bx.xs i j)
        | false => match mapC (resEC (resC H n)) bx.xs with
          | some (b, ys) => some (bv && (b && decide (i < bx.xs.length)), .eptr bx.sz ys i j)
          | none => none
      | none => none
    | .osl id ver off len => match getV H id ver with
      | some (bv, bx) => match bx.pm with
        | true => some (bv && decide (off + len ≤ bx.xs.length), .list bx.sz ((bx.xs.drop off).take len))
        | false => match mapC (resEC (resC H n)) ((bx.xs.drop off).take len) with
          | some (b, ys) => some (bv && (b && decide (off + len ≤ bx.xs.length)), .list bx.sz ys)
          | none => none
      | none => none
    | x => some (x.pure, x)

theorem mapC_spec {r : AV → Option (Bool × AV)} {q : AV → Option AV} (h : ∀ x y, r x = some (true, y) → q x = some y) : ∀ {xs ys : List AV}, mapC r xs = some (true, ys) → mapO q xs = some ys
  | [], ys, e => by simp only [mapC, Option.some.injEq, Prod.mk.injEq, true_and] at e; subst e; rfl
  | x :: xs, ys, e => by
    unfold mapC at e
    split at e
    case h_2 => simp at e
    rename_i b y hx
    split at e
    case h_2 => simp at e
    rename_i c zs hz
    simp only [Option.some.injEq, Prod.mk.injEq, Bool.and_eq_true] at e
    obtain ⟨⟨rfl, rfl⟩, rfl⟩ := e
    unfold mapO
    rw [h _ _ hx, mapC_spec h hz]

theorem mapC_mem {r : AV → Option (Bool × AV)} : ∀ {xs ys : List AV}, mapC r xs = some (true, ys) → ∀ x, x ∈ xs → ∃ y, r x = some (true, y)
  | [], ys, e, x, hx => by simp at hx
  | x :: xs, ys, e, z, hz => by
    unfold mapC at e
    split at e
    case h_2 => simp at e
    rename_i b y hx
    split at e
    case h_2 => simp at e
    rename_i c zs hzs
    simp only [Option.some.injEq, Prod.mk.injEq, Bool.and_eq_true] at e
    obtain ⟨⟨rfl, rfl⟩, rfl⟩ := e
    rcases List.mem_cons.1 hz with rfl | hz
    · exact ⟨_, hx⟩
    · exact mapC_mem hzs z hz

theorem mapO_pure {H : List Box} {n : Nat} : ∀ {xs : List AV}, AV.pures xs = true → mapO (resolve H n) xs = some xs
  | [], _ => rfl
  | x :: xs, h => by
    simp only [AV.pures, Bool.and_eq_true] at h
    unfold mapO
    rw [resolve_pure h.1, mapO_pure h.2]

theorem resE_pure {H : List Box} {n : Nat} {x : AV} (h : x.pure = true) : resE (resolve H n) x = some x := by
  cases x <;> first | (simp only [resE]; exact resolve_pure h) | skip
  simp only [AV.pure] at h
  simp only [resE, mapO_pure h]

theorem mapO_resE_pure {H : List Box} {n : Nat} : ∀ {xs : List AV}, AV.pures xs = true → mapO (resE (resolve H n)) xs = some xs
  | [], _ => rfl
  | x :: xs, h => by
    simp only [AV.pures, Bool.and_eq_true] at h
    unfold mapO
    rw [resE_pure h.1, mapO_resE_pure h.2]

theorem resEC_spec {r : AV → Option (Bool × AV)} {q : AV → Option AV} (h : ∀ x y, r x = some (true, y) → q x = some y) (x y : AV) (e : resEC r x = some (true, y)) : resE q x = some y := by
  cases x <;> first | exact h _ _ e | skip
  simp only [resEC] at e
  split at e
  case h_2 => simp at e
  rename_i b ds hd
  simp only [Option.some.injEq, Prod.mk.injEq] at e
  obtain ⟨rfl, rfl⟩ := e
  simp only [resE, mapC_spec h hd]

theorem resC_spec {H : List Box} : ∀ (n : Nat) (x y : AV), resC H n x = some (true, y) → resolve H n x = some y
  | 0, x, y, e => by
    simp only [resC, Option.some.injEq, Prod.mk.injEq] at e
    rw [← e.2]; exact resolve_pure e.1
  | n + 1, x, y, e => by
    have ih := resC_spec (H := H) n
    unfold resC at e
    split at e
    · rename_i cs
      split at e
      case h_2 => simp at e
      rename_i b ds hd
      simp only [Option.some.injEq, Prod.mk.injEq] at e
      obtain ⟨rfl, rfl⟩ := e
      have hm := mapC_spec ih hd
      by_cases hp : AV.pures cs = true
      · rw [mapO_pure hp] at hm; simp only [Option.some.injEq] at hm; subst hm
        exact resolve_pure (by simpa [AV.pure] using hp)
      · unfold resolve
        rw [if_neg (by simpa [AV.pure] using hp)]
        simp only [hm]
    · rename_i f cs
      split at e
      case h_2 => simp at e
      rename_i b ds hd
      simp only [Option.some.injEq, Prod.mk.injEq] at e
      obtain ⟨rfl, rfl⟩ := e
      have hm := mapC_spec ih hd
      by_cases hp : AV.pures cs = true
      · rw [mapO_pure hp] at hm; simp only [Option.some.injEq] at hm; subst hm
        exact resolve_pure (by simpa [AV.pure] using hp)
      · unfold resolve
        rw [if_neg (by simpa [AV.pure] using hp)]
        simp only [hm]
    · rename_i id ver i j
      split at e
      case h_2 => simp at e
      rename_i bv bx hb
      unfold resolve
      rw [if_neg (by simp [AV.pure])]
      split at e
      · rename_i hpm
        simp only [Option.some.injEq, Prod.mk.injEq, Bool.and_eq_true, decide_eq_true_eq] at e
        obtain ⟨⟨rfl, h2⟩, rfl⟩ := e
        simp only [getV_spec hb, mapE, hpm, if_true, if_pos h2]
      · rename_i hpm
        split at e
        case h_2 => simp at e
        rename_i b ys hy
        simp only [Option.some.injEq, Prod.mk.injEq, Bool.and_eq_true, decide_eq_true_eq] at e
        obtain ⟨⟨rfl, rfl, h2⟩, rfl⟩ := e
        simp only [getV_spec hb, mapE, hpm, Bool.false_eq_true, if_false, mapC_spec (resEC_spec ih) hy, if_pos h2]
    · rename_i id ver off len
      split at e
      case h_2 => simp at e
      rename_i bv bx hb
      unfold resolve
      rw [if_neg (by simp [AV.pure])]
      split at e
      · rename_i hpm
        simp only [Option.some.injEq, Prod.mk.injEq, Bool.and_eq_true, decide_eq_true_eq] at e
        obtain ⟨⟨rfl, h2⟩, rfl⟩ := e
        simp only [getV_spec hb, mapE, hpm, if_true, if_pos h2]
      · rename_i hpm
        split at e
        case h_2 => simp at e
        rename_i b ys hy
        simp only [Option.some.injEq, Prod.mk.injEq, Bool.and_eq_true, decide_eq_true_eq] at e
        obtain ⟨⟨rfl, rfl, h2⟩, rfl⟩ := e
        simp only [getV_spec hb, mapE, hpm, Bool.false_eq_true, if_false, mapC_spec (resEC_spec ih) hy, if_pos h2]
    · simp only [Option.some.injEq, Prod.mk.injEq] at e
      rw [← e.2]; exact resolve_pure e.1

def reachC (H : List Box) : Nat → AV → List Nat
  | 0, _ => []
  | n + 1, x => match x with
    | .agg cs => cs.flatMap (reachC H n)
    | .func _ cs => cs.flatMap (reachC H n)
    | .own id _ _ _ => id :: (match H[id]? with | some bx => (match bx.pm with | true => [] | false => bx.xs.flatMap fun (e : AV) => e.cells.flatMap (reachC H n)) | none => [])
    | .osl id _ off len => id :: (match H[id]? with | some bx => (match bx.pm with | true => [] | false => ((bx.xs.drop off).take len).flatMap fun (e : AV) => e.cells.flatMap (reachC H n)) | none => [])
    | _ => []

theorem flatMap_congr {α β : Type} {f g : α → List β} : ∀ {l : List α}, (∀ x, x ∈ l → f x = g x) → l.flatMap f = l.flatMap g
  | [], _ => rfl
  | x :: xs, h => by
    rw [List.flatMap_cons, List.flatMap_cons, h x (by simp), flatMap_congr fun y hy => h y (by simp [hy])]

theorem flatMap_nil' {α β : Type} {f : α → List β} : ∀ {l : List α}, (∀ x, x ∈ l → f x = []) → l.flatMap f = []
  | [], _ => rfl
  | x :: xs, h => by
    rw [List.flatMap_cons, h x (by simp), flatMap_nil' fun y hy => h y (by simp [hy])]; rfl

theorem pures_mem {xs : List AV} (h : AV.pures xs = true) {x : AV} (hx : x ∈ xs) : x.pure = true := by
  rw [pures_eq, List.all_eq_true] at h; exact h x hx

theorem getV_get {H : List Box} {id ver : Nat} {b : Bool} {bx : Box} (h : getV H id ver = some (b, bx)) : H[id]? = some bx := by
  unfold getV at h
  split at h
  · rename_i bx' hb; simp only [Option.some.injEq, Prod.mk.injEq] at h; rw [hb, h.2]
  · simp at h

theorem resEC_cells {r : AV → Option (Bool × AV)} {e y : AV} (h : resEC r e = some (true, y)) : ∀ c, c ∈ e.cells → ∃ d, r c = some (true, d) := by
  intro c hc
  cases e <;> first | (simp only [AV.cells, List.mem_singleton] at hc; subst hc; exact ⟨_, h⟩) | skip
  simp only [resEC] at h
  split at h
  case h_2 => simp at h
  rename_i b ds hd
  simp only [Option.some.injEq, Prod.mk.injEq] at h
  obtain ⟨rfl, _⟩ := h
  exact mapC_mem hd c hc

theorem reachC_spec {H : List Box} : ∀ (n : Nat) (x y : AV), resC H n x = some (true, y) → reach H n x = reachC H n x
  | 0, x, y, e => by simp [reach, reachC]
  | n + 1, x, y, e => by
    have ih := reachC_spec (H := H) n
    unfold resC at e
    split at e
    · rename_i cs
      split at e
      case h_2 => simp at e
      rename_i b ds hd
      simp only [Option.some.injEq, Prod.mk.injEq] at e
      obtain ⟨rfl, rfl⟩ := e
      have h1 : cs.flatMap (reach H n) = cs.flatMap (reachC H n) := flatMap_congr fun c hc => by obtain ⟨d, hd'⟩ := mapC_mem hd c hc; exact ih c d hd'
      unfold reach
      simp only [reachC]
      split
      · rename_i hp
        rw [← h1, flatMap_nil' fun c hc => reach_pure (pures_mem (by simpa [AV.pure] using hp) hc)]
      · exact h1
    · rename_i f cs
      split at e
      case h_2 => simp at e
      rename_i b ds hd
      simp only [Option.some.injEq, Prod.mk.injEq] at e
      obtain ⟨rfl, rfl⟩ := e
      have h1 : cs.flatMap (reach H n) = cs.flatMap (reachC H n) := flatMap_congr fun c hc => by obtain ⟨d, hd'⟩ := mapC_mem hd c hc; exact ih c d hd'
      unfold reach
      simp only [reachC]
      split
      · rename_i hp
        rw [← h1, flatMap_nil' fun c hc => reach_pure (pures_mem (by simpa [AV.pure] using hp) hc)]
      · exact h1
    · rename_i id ver i j
      split at e
      case h_2 => simp at e
      rename_i bv bx hb
      unfold reach
      rw [if_neg (by simp [AV.pure])]
      simp only [reachC, getV_get hb]
      congr 1
      split at e
      · rename_i hpm; simp only [hpm, if_true]
      · rename_i hpm
        split at e
        case h_2 => simp at e
        rename_i b ys hy
        simp only [Option.some.injEq, Prod.mk.injEq, Bool.and_eq_true] at e
        obtain ⟨⟨rfl, rfl, _⟩, _⟩ := e
        simp only [hpm, Bool.false_eq_true, if_false]
        exact flatMap_congr fun e he => flatMap_congr fun c hc => by
          obtain ⟨y, hy'⟩ := mapC_mem hy e he
          obtain ⟨d, hd⟩ := resEC_cells hy' c hc
          exact ih c d hd
    · rename_i id ver off len
      split at e
      case h_2 => simp at e
      rename_i bv bx hb
      unfold reach
      rw [if_neg (by simp [AV.pure])]
      simp only [reachC, getV_get hb]
      congr 1
      split at e
      · rename_i hpm; simp only [hpm, if_true]
      · rename_i hpm
        split at e
        case h_2 => simp at e
        rename_i b ys hy
        simp only [Option.some.injEq, Prod.mk.injEq, Bool.and_eq_true] at e
        obtain ⟨⟨rfl, rfl, _⟩, _⟩ := e
        simp only [hpm, Bool.false_eq_true, if_false]
        exact flatMap_congr fun e he => flatMap_congr fun c hc => by
          obtain ⟨y, hy'⟩ := mapC_mem hy e he
          obtain ⟨d, hd⟩ := resEC_cells hy' c hc
          exact ih c d hd
    · simp only [Option.some.injEq, Prod.mk.injEq] at e
      rw [reach_pure e.1]
      rename_i h1 h2 h3 h4
      cases x <;> first | rfl | exact (h1 _ rfl).elim | exact (h2 _ _ rfl).elim | exact (h3 _ _ _ _ rfl).elim | exact (h4 _ _ _ _ rfl).elim

theorem reachC_all {H : List Box} {n : Nat} {xs ys : List AV} (h : mapC (resC H n) xs = some (true, ys)) : xs.flatMap (reach H n) = xs.flatMap (reachC H n) :=
  flatMap_congr fun c hc => by obtain ⟨d, hd⟩ := mapC_mem h c hc; exact reachC_spec n c d hd

def afterC (H : List Box) (args : List AV) (r : AV) : List Box := if r.flat = true then H else freeze H (args.flatMap (reachC H rfuel))

theorem afterC_eq {H : List Box} {xs ys : List AV} (h : mapC (resC H rfuel) xs = some (true, ys)) (r : AV) : afterC H xs r = afterCall H xs r := by
  unfold afterC afterCall
  rw [reachC_all h]

/-! ### The executor -/

/-- How a loop ends: by what holds, at one exit or another. -/
inductive LR where
  | leaf (e : Exit) (out : List AV) (H : List Box)
  | node (t : Bool) (a b : LR)

def LR.eval : LR → Exit × List AV × List Box
  | .leaf e o H => (e, o, H)
  | .node t a b => match t with
    | true => a.eval
    | false => b.eval

def LR.run {T : Type} (f : Exit → List AV → List Box → T) : LR → T
  | .leaf e o H => f e o H
  | .node t a b => br t (a.run f) (b.run f)

theorem LR.run_good {T : Type} {good : T → Prop} {f : Exit → List AV → List Box → T} : ∀ {r : LR}, good (r.run f) → good (f r.eval.1 r.eval.2.1 r.eval.2.2)
  | .leaf e o H, h => h
  | .node true a b, h => LR.run_good (r := a) h
  | .node false a b, h => LR.run_good (r := b) h

/-- What is known of one loop: the temporaries that count at a round's head and behind the loop, those that may be nil, how it ends. -/
structure Lp where
  live : List Nat
  liveO : List Nat
  conv : List (Nat × Nat × TypeId)
  run : List AV → List Box → Option (Bool × LR)

structure Env where
  orc : FuncId → List AV → Option (Bool × AV)
  isM : FuncId → Bool
  orcM : FuncId → List AV → List Box → Option (Bool × AV × List Box)
  lp : Nat → Option Lp
  nt : Nat
  fuel : Nat
  pin : Nat
  ls : TypeId → Bool

/-- The number of a piece of code: its first region's. -/
def codeId : Code → Nat
  | .region id _ _ => id
  | .seq a _ => codeId a
  | .block _ c => codeId c
  | .loop c => codeId c
  | .cond _ a _ => codeId a
  | _ => 0

def loopsOf : Code → List Code
  | .seq a b => loopsOf a ++ loopsOf b
  | .block _ c => loopsOf c
  | .loop c => c :: loopsOf c
  | .cond _ a b => loopsOf a ++ loopsOf b
  | _ => []

/-- The branchings of a piece of code. -/
def condsOf : Code → List Code
  | .seq a b => condsOf a ++ condsOf b
  | .block _ c => condsOf c
  | .loop c => condsOf c
  | .cond t a b => .cond t a b :: (condsOf a ++ condsOf b)
  | _ => []

def condId : Code → Nat
  | .cond _ a _ => 1000000 + codeId a
  | _ => 0

def OrcOk (P : Program) (Inv : IV) (E : Env) : Prop := (∀ g args r, E.orc g args = some (true, r) → Good P Inv g args r) ∧ ∀ g args H r H', E.orcM g args H = some (true, r, H') → GoodM P Inv g args H r H'

/-- What is said of one loop. -/
def LoopOk (P : Program) (Inv : IV) (nt : Nat) (l : Code) (lp : Lp) : Prop :=
  ∀ vals H r, lp.run vals H = some (true, r) → DoesL P Inv l (fun e1 s1 => e1 = r.eval.1 ∧ s1 = ⟨mkTs nt (lp.liveO.zip r.eval.2.1), r.eval.2.2⟩) ⟨mkTs nt (lp.live.zip vals), H⟩

/-- What is said of a piece of code. -/
def PieceOk (P : Program) (Inv : IV) (nt : Nat) (d : Code) (lp : Lp) : Prop :=
  ∀ vals H r, lp.run vals H = some (true, r) → Does P Inv d (fun e1 s1 => e1 = r.eval.1 ∧ s1 = ⟨mkTs nt (lp.liveO.zip r.eval.2.1), r.eval.2.2⟩) ⟨mkTs nt (lp.live.zip vals), H⟩

def LoOk (P : Program) (Inv : IV) (E : Env) (c : Code) : Prop := (∀ l, l ∈ loopsOf c → ∀ lp, E.lp (codeId l) = some lp → LoopOk P Inv E.nt l lp) ∧ ∀ d, d ∈ condsOf c → ∀ lp, E.lp (condId d) = some lp → PieceOk P Inv E.nt d lp

theorem LoOk.sub {P : Program} {Inv : IV} {E : Env} {c c' : Code} (h : LoOk P Inv E c) (h1 : ∀ l, l ∈ loopsOf c' → l ∈ loopsOf c) (h2 : ∀ d, d ∈ condsOf c' → d ∈ condsOf c) : LoOk P Inv E c' := ⟨fun l hl => h.1 l (h1 l hl), fun d hd => h.2 d (h2 d hd)⟩

/-- What follows from less follows from more. -/
theorem doesL_weak {P : Program} {Inv : IV} {c : Code} {s s' : St} {Q : Exit → St → Prop} (hw : Weak Inv.pin s s') (h : DoesL P Inv c Q s') : DoesL P Inv c Q s :=
  fun w0 A0 w A M a Qc hI hp hs hQ => by
    obtain ⟨M'', hs''⟩ := hw w0 A0 w A M a hp hs
    exact h w0 A0 w A M'' a Qc hI hp hs'' hQ

theorem does_weak {P : Program} {Inv : IV} {c : Code} {s s' : St} {Q : Exit → St → Prop} (hw : Weak Inv.pin s s') (h : Does P Inv c Q s') : Does P Inv c Q s :=
  fun w0 A0 w A M a Qc hI hp hs hQ => by
    obtain ⟨M'', hs''⟩ := hw w0 A0 w A M a hp hs
    exact h w0 A0 w A M'' a Qc hI hp hs'' hQ

section exec
variable {T : Type} (P : Program) (E : Env) (bad : T)

def xplain (imp : Bool) (o : Oper) (s : St) (K : St → T) : T :=
  if isImp o.op = true then
    (if imp = true then match iopC P s.eval s.heap o.op with
      | some (b, x, H) => br b (force x fun x' => putK s.tmps o.dst x' fun ts => forceH H fun H' => K ⟨ts, H'⟩) bad
      | none => bad
    else bad)
  else match fopC P E.ls s.eval s.heap s.heap.length o.op with
    | some (b, x, nb) => br b (force x fun x' => putK s.tmps o.dst x' fun ts => forceH (s.heap ++ nb.toList) fun H' => K ⟨ts, H'⟩) bad
    | none => bad

def xcallM (o : Oper) (c : Call) (s : St) (K : St → T) : T :=
  match callTarget s c with
  | some (g, args) =>
    let ids := gather s.heap 1000 (refsOf.refsL args) []
    match nodupB ids with
    | true => match subBoxes (inF ids) s.heap ids with
      | some H0 => forces (rens (inF ids) args) fun as => forceH H0 fun H0 => match E.orcM g as H0 with
        | some (b, r0, H0') => br b (force (ren (outF ids s.heap.length ids.length) r0) fun r' => putK s.tmps o.dst r' fun ts => forceH (outHeap s.heap ids H0') fun H' => K ⟨ts, H'⟩) bad
        | none => bad
      | none => bad
    | false => bad
  | none => bad

def callIsM (s : St) (c : Call) : Bool := match callTarget s c with
  | some (g, _) => E.isM g
  | none => false

def xcall (o : Oper) (c : Call) (s : St) (K : St → T) : T :=
  match callTarget s c with
  | some (g, args) => match mapC (resC s.heap rfuel) args with
    | some (b, args') => br b (forces args' fun as => match E.orc g as with
      | some (b2, r) => br b2 (force r fun r' => putK s.tmps o.dst r' fun ts => forceH (afterC s.heap args r') fun H' => K ⟨ts, H'⟩) bad
      | none => bad) bad
    | none => bad
  | none => bad

def xop (imp : Bool) (o : Oper) (s : St) (K : St → T) : T :=
  match o.op with
  | .pick c a b => match s.eval c with
    | .bool t => br t (force (s.eval a) fun x => putK s.tmps o.dst x fun ts => K ⟨ts, s.heap⟩) (force (s.eval b) fun x => putK s.tmps o.dst x fun ts => K ⟨ts, s.heap⟩)
    | _ => bad
  | .call c => match c.callee with
    | .value _ => match callIsM E s c with
      | true => match imp with
        | true => xcallM E bad o c s K
        | false => bad
      | false => xcall E bad o c s K
    | _ => xplain P E bad imp o s K
  | _ => xplain P E bad imp o s K

/-- A slice of the call's own that is laid into another one is frozen: from then on it is a slice that nobody writes. -/
def stlV (H : List Box) : AV → Bool × AV × List Nat
  | .osl id ver off len => match resC H rfuel (.osl id ver off len) with
    | some (b, y) => (b, y, reachC H rfuel (.osl id ver off len))
    | none => (false, .top, [])
  | x => (true, x, [])

def stlAll (H : List Box) (ts0 : List AV) : List Nat → Bool × List AV × List Nat
  | [] => (true, ts0, [])
  | t :: r => match stlAll H ts0 r with
    | (b, ts, ids) => match stlV H (ts0.getD t .top) with
      | (b', y, ids') => (b' && b, ts.set t y, ids' ++ ids)

def oslTs (ts : List AV) : List Operand → List Nat
  | [] => []
  | .tmp t :: r => match ts.getD t .top with
    | .osl _ _ _ _ => t :: oslTs ts r
    | _ => oslTs ts r
  | _ :: r => oslTs ts r

def needS (s : St) (o : Oper) : List Nat := match o.op with
  | .buildSlice t _ _ => match P.underlying t with
    | some (.slice e) => match E.ls e with
      | true => oslTs s.tmps o.op.operands.toList
      | false => []
    | _ => []
  | _ => []

def xset (tl : List Nat) (o : Oper) (s : St) (K : St → T) : T := match stlAll s.heap s.tmps tl with
  | (b, ts1, ids) => br b (forces ts1 fun ts1 => forceH (freeze s.heap ids) fun H1 => match fopC P E.ls (St.eval ⟨ts1, H1⟩) H1 H1.length o.op with
    | some (b2, x, nb) => br b2 (force x fun x' => putK s.tmps o.dst x' fun ts => forceH (H1 ++ nb.toList) fun H' => K ⟨ts, H'⟩) bad
    | none => bad) bad

def xopS (imp : Bool) (o : Oper) (s : St) (K : St → T) : T := match needS P E s o with
  | [] => xop P E bad imp o s K
  | t :: r => match imp with
    | true => xset P E bad (t :: r) o s K
    | false => bad

def xguard (ops : Array Oper) (o : Oper) (s : St) (K : Bool → St → T) : T :=
  match o.guard with
  | none => K true s
  | some (j, want) => match dstOf ops j with
    | none => K false s
    | some d => match s.tmps[d]? with
      | none => K false s
      | some (.bool t) => br t (setK s.tmps d (.bool true) fun ts => K (true == want) ⟨ts, s.heap⟩) (setK s.tmps d (.bool false) fun ts => K (false == want) ⟨ts, s.heap⟩)
      | some (.tuple _) => K false s
      | _ => bad

def xOps (imp : Bool) (ops : Array Oper) : List Oper → St → (St → T) → T
  | [], s, K => K s
  | o :: rest, s, K => xguard bad ops o s fun b s1 => match b with
    | true => xopS P E bad imp o s1 fun s' => xOps imp ops rest s' K
    | false => putK s1.tmps o.dst (.tuple []) fun ts => xOps imp ops rest ⟨ts, s1.heap⟩ K

/-- An operation that writes, or may. -/
def impOp (o : Oper) : Bool := match o.op with
  | .call c => match c.callee with
    | .value (.func g) => E.isM g
    | _ => isImp o.op
  | _ => isImp o.op

def freeN : List Oper → Nat
  | [] => 0
  | o :: l => match impOp E o with
    | true => 0
    | false => freeN l + 1

def xTail (ops : Array Oper) (m : Nat) : Nat → List Oper → St → (St → T) → T
  | _, [], s, K => K s
  | k, o :: rest, s, K => match outT ops m ((masks ops).getD k 0) with
    | [] => xguard bad ops o s fun b s1 => match b with
      | true => xopS P E bad true o s1 fun s' => xTail ops m (k + 1) rest s' K
      | false => putK s1.tmps o.dst (.tuple []) fun ts => xTail ops m (k + 1) rest ⟨ts, s1.heap⟩ K
    | d :: ds => match o.guard with
      | none => forces (maskT (d :: ds) s.tmps) fun ms => xopS P E bad true o ⟨ms, s.heap⟩ fun s' => forces (restT (d :: ds) s.tmps s'.tmps) fun ts => xTail ops m (k + 1) rest ⟨ts, s'.heap⟩ K
      | some _ => bad

/-- How many operations of a region whose order is drawn are taken in whatever order: all that write nothing; the last of them stays behind where it sets a variable that another one reads. -/
def cutN (ops : Array Oper) : Nat := match regOk ops (freeN E ops.toList) with
  | true => freeN E ops.toList
  | false => freeN E ops.toList - 1

def xReg (ops : Array Oper) (draw : Bool) (s : St) (K : St → T) : T :=
  if draw = true then
    if (decide (cutN E ops ≤ ops.size) && regOk ops (cutN E ops)) = true then
      xOps P E bad false ops (ops.toList.take (cutN E ops)) s fun s1 => xTail P E bad ops (cutN E ops) (cutN E ops) (ops.toList.drop (cutN E ops)) s1 K
    else bad
  else xOps P E bad true ops ops.toList s K

def xloop (R : St → (Exit → St → T) → T) : Nat → St → (Exit → St → T) → T
  | 0, _, _ => bad
  | n + 1, s, K => R s fun e s' => match e with
    | .normal => xloop R n s' K
    | e => K e s'

/-- A piece of code of which all is known; 'F': what else, where nothing is said of this state. -/
def xpiece (lp : Lp) (s : St) (K : Exit → St → T) (F : T) : T := match normS E.pin lp.conv lp.live s with
  | some (vals, H0) => forces vals fun vals => forceH H0 fun H0 => match lp.run vals H0 with
    | some (b, r) => br (Nat.beq s.tmps.length E.nt) (br b (r.run fun e out H' => forces (mkTs E.nt (lp.liveO.zip out)) fun ts => forceH H' fun H'' => K e ⟨ts, H''⟩) bad) bad
    | none => F
  | none => F

/-- A loop of which something is known: a round ahead, where it does not fit yet. -/
def xpeel (lp : Lp) (R : St → (Exit → St → T) → T) : Nat → St → (Exit → St → T) → T
  | 0, s, K => xpiece E bad lp s K bad
  | n + 1, s, K => xpiece E bad lp s K (R s fun e s' => match e with
    | .normal => xpeel lp R n s' K
    | e => K e s')

def X : Code → St → (Exit → St → T) → T
  | .skip, s, K => K .normal s
  | .region _ ops draw, s, K => xReg P E bad ops draw s (K .normal)
  | .seq a b, s, K => X a s fun e s' => match e with
    | .normal => X b s' K
    | e => K e s'
  | .cond c a b, s, K => match E.lp (1000000 + codeId a) with
    | some lp => xpiece E bad lp s K bad
    | none => match s.eval c with
      | .bool t => br t (X a s K) (X b s K)
      | _ => bad
  | .block id c, s, K => X c s fun e s' => match e with
    | .exit id' => if id' = id then K .normal s' else K (.exit id') s'
    | e => K e s'
  | .loop c, s, K => match E.lp (codeId c) with
    | some lp => xpeel E bad lp (fun s K => X c s K) 2 s K
    | none => xloop bad (fun s K => X c s K) E.fuel s K
  | .exit id, s, K => K (.exit id) s
  | .ret, s, K => K .ret s
  | _, _, _ => bad
end exec

section sound
variable {T : Type} {P : Program} {Inv : IV} {E : Env} {bad : T} {good : T → Prop}

theorem br_good (hbad : ¬ good bad) {t : Bool} {a : T} (h : good (br t a bad)) : t = true ∧ good a := by
  cases t with
  | true => exact ⟨rfl, h⟩
  | false => exact (hbad h).elim

theorem xplain_sound (hbad : ¬ good bad) {imp : Bool} {o : Oper} {s : St} {K : St → T} (h : good (xplain P E bad imp o s K)) :
    if isImp o.op = true then imp = true ∧ istep P o s (fun s' => good (K s')) else fstep P o s (fun s' => good (K s')) := by
  unfold xplain at h
  split
  · rename_i hi
    rw [if_pos hi] at h
    split at h
    case isFalse => exact (hbad h).elim
    rename_i him
    refine ⟨him, ?_⟩
    split at h
    case h_2 => exact (hbad h).elim
    rename_i b x H hx
    obtain ⟨rfl, h⟩ := br_good hbad h
    rw [force_eq, putK_eq, forceH_eq] at h
    unfold istep
    rw [iopC_spec hx]
    exact h
  · rename_i hi
    rw [if_neg hi] at h
    split at h
    case h_2 => exact (hbad h).elim
    rename_i b x nb hx
    obtain ⟨rfl, h⟩ := br_good hbad h
    rw [force_eq, putK_eq, forceH_eq] at h
    unfold fstep
    rw [fopC_spec hx]
    exact h

theorem xcall_sound (hbad : ¬ good bad) (hor : OrcOk P Inv E) {o : Oper} {c : Call} {s : St} {K : St → T} (h : good (xcall E bad o c s K)) : CallF P Inv s c o.dst (fun s' => good (K s')) := by
  unfold xcall at h
  split at h
  case h_2 => exact (hbad h).elim
  rename_i g args hct
  split at h
  case h_2 => exact (hbad h).elim
  rename_i b args' hm
  have ⟨e1, h1⟩ := br_good hbad h
  clear h
  subst e1
  rw [forces_eq] at h1
  split at h1
  case h_2 => exact (hbad h1).elim
  rename_i b2 r hr
  have ⟨e2, h⟩ := br_good hbad h1
  clear h1
  subst e2
  rw [force_eq, putK_eq, forceH_eq, afterC_eq hm] at h
  exact callF_good hct (mapC_spec (resC_spec rfuel) hm) (hor.1 _ _ _ hr) h

theorem callF_K {s : St} {c : Call} {d : Option Tmp} {K : St → Prop} (h : CallF P Inv s c d K) : CallK P Inv s c d K := by
  obtain ⟨s', h1, h2⟩ := h
  exact ⟨s', .inl h1, h2⟩

theorem xcallM_sound (hbad : ¬ good bad) (hor : OrcOk P Inv E) {o : Oper} {c : Call} {s : St} {K : St → T} (h : good (xcallM E bad o c s K)) : CallK P Inv s c o.dst (fun s' => good (K s')) := by
  unfold xcallM at h
  split at h
  case h_2 => exact (hbad h).elim
  rename_i g args hct
  simp only at h
  generalize gather s.heap 1000 (refsOf.refsL args) [] = ids at h
  split at h
  case h_2 => exact (hbad h).elim
  rename_i hnd
  split at h
  case h_2 => exact (hbad h).elim
  rename_i H0 hsub
  rw [forces_eq, forceH_eq] at h
  split at h
  case h_2 => exact (hbad h).elim
  rename_i b r0 H0' hr
  obtain ⟨rfl, h⟩ := br_good hbad h
  rw [force_eq, putK_eq, forceH_eq] at h
  exact ⟨_, .inr (.inr (.inl ⟨c, g, args, ids, H0, r0, H0', rfl, hct, hnd, hsub, hor.2 _ _ _ _ _ hr, rfl⟩)), h⟩

theorem isImp_call {o : Oper} {c : Call} (ho : o.op = .call c) {f : Operand} (hf : c.callee = .value f) : isImp o.op = false := by
  simp [isImp, ho, hf]

theorem xop_A (hbad : ¬ good bad) (hor : OrcOk P Inv E) {o : Oper} {s : St} {K : St → T} (h : good (xop P E bad true o s K)) : stepA P Inv o s (fun s' => good (K s')) := by
  have plain : good (xplain P E bad true o s K) → (if isImp o.op = true then istep P o s (fun s' => good (K s')) else fstep P o s (fun s' => good (K s'))) := fun h => by
    have := xplain_sound hbad h
    split at this <;> rename_i hi
    · rw [if_pos hi]; exact this.2
    · rw [if_neg hi]; exact this
  unfold xop at h
  unfold stepA
  split at h
  · rename_i c a b ho
    split at h
    case h_2 => exact (hbad h).elim
    rename_i t ht
    simp only [ho, ht]
    rw [force_eq, force_eq, putK_eq, putK_eq] at h
    cases t with
    | true => exact both_true (by simpa only [br] using h)
    | false => exact both_false (by simpa only [br] using h)
  · rename_i c ho
    split at h
    · rename_i f hf
      simp only [ho, hf]
      split at h
      · exact xcallM_sound hbad hor h
      · exact callF_K (xcall_sound hbad hor h)
    · rename_i hne
      have := plain h
      simp only [ho] at this ⊢
      cases hc : c.callee <;> first | exact (hne _ hc).elim | exact this
  · rename_i h1 h2
    have := plain h
    cases ho : o.op <;> first | exact (h1 _ _ _ ho).elim | exact (h2 _ ho).elim | exact this | (rw [ho] at this; exact this)

theorem xop_F (hbad : ¬ good bad) (hor : OrcOk P Inv E) {o : Oper} {s : St} {K : St → T} (h : good (xop P E bad false o s K)) : stepF P Inv o s (fun s' => good (K s')) := by
  have plain : good (xplain P E bad false o s K) → fstep P o s (fun s' => good (K s')) := fun h => by
    have := xplain_sound hbad h
    split at this <;> rename_i hi
    · exact absurd this.1 (by simp)
    · exact this
  unfold xop at h
  unfold stepF
  split at h
  · rename_i c a b ho
    split at h
    case h_2 => exact (hbad h).elim
    rename_i t ht
    simp only [ho, ht]
    rw [force_eq, force_eq, putK_eq, putK_eq] at h
    cases t with
    | true => exact both_true (by simpa only [br] using h)
    | false => exact both_false (by simpa only [br] using h)
  · rename_i c ho
    split at h
    · rename_i f hf
      simp only [ho, hf]
      split at h
      · exact (hbad h).elim
      · exact xcall_sound hbad hor h
    · rename_i hne
      have := plain h
      simp only [ho] at this ⊢
      cases hc : c.callee <;> first | exact (hne _ hc).elim | exact this
  · rename_i h1 h2
    have := plain h
    cases ho : o.op <;> first | exact (h1 _ _ _ ho).elim | exact (h2 _ ho).elim | exact this | (rw [ho] at this; exact this)

theorem stlAll_spec {H : List Box} {ts0 : List AV} : ∀ {tl : List Nat} {ts : List AV} {ids : List Nat}, stlAll H ts0 tl = (true, ts, ids) → ts.length = ts0.length ∧
    ∀ t, ts.getD t .top = ts0.getD t .top ∨ (resolve H rfuel (ts0.getD t .top) = some (ts.getD t .top) ∧ ∀ id, id ∈ reach H rfuel (ts0.getD t .top) → id ∈ ids)
  | [], ts, ids, h => by
    simp only [stlAll, Prod.mk.injEq, true_and] at h
    obtain ⟨rfl, rfl⟩ := h
    exact ⟨rfl, fun t => .inl rfl⟩
  | t :: r, ts, ids, h => by
    unfold stlAll at h
    split at h
    rename_i b ts1 ids1 h1
    split at h
    rename_i b' y ids' h2
    simp only [Prod.mk.injEq, Bool.and_eq_true] at h
    obtain ⟨⟨rfl, rfl⟩, rfl, rfl⟩ := h
    obtain ⟨e1, e2⟩ := stlAll_spec h1
    refine ⟨by rw [List.length_set, e1], fun k => ?_⟩
    by_cases hk : k = t ∧ t < ts1.length
    · obtain ⟨rfl, hl⟩ := hk
      rw [getD_set_eq hl]
      unfold stlV at h2
      split at h2
      · rename_i id ver off len hx
        split at h2
        · rename_i b y0 hr
          simp only [Prod.mk.injEq] at h2
          obtain ⟨rfl, rfl, rfl⟩ := h2
          rw [hx]
          refine .inr ⟨resC_spec rfuel _ _ hr, fun i hi => ?_⟩
          rw [reachC_spec rfuel _ _ hr] at hi
          exact List.mem_append_left _ hi
        · simp at h2
      · simp only [Prod.mk.injEq, true_and] at h2
        exact .inl h2.1.symm
    · have : (ts1.set t y).getD k .top = ts1.getD k .top := by
        by_cases hkt : k = t
        · subst hkt
          rw [List.set_eq_of_length_le (by omega)]
        · exact getD_set_ne (fun e => hkt e.symm)
      rw [this]
      rcases e2 k with h | ⟨h, h'⟩
      · exact .inl h
      · exact .inr ⟨h, fun id hid => List.mem_append_right _ (h' id hid)⟩

theorem xset_sound (hbad : ¬ good bad) {tl : List Nat} {o : Oper} {s : St} {K : St → T} (h : good (xset P E bad tl o s K)) : ∃ s', OpA P Inv s o s' ∧ good (K s') := by
  unfold xset at h
  split at h
  rename_i b ts1 ids hst
  have ⟨hb, h1⟩ := br_good hbad h
  clear h
  subst hb
  rw [forces_eq, forceH_eq] at h1
  split at h1
  case h_2 => exact (hbad h1).elim
  rename_i b2 x nb hx
  have ⟨hb, h⟩ := br_good hbad h1
  clear h1
  subst hb
  rw [force_eq, putK_eq, forceH_eq] at h
  obtain ⟨e1, e2⟩ := stlAll_spec hst
  exact ⟨_, .inr (.inr (.inr ⟨⟨ts1, freeze s.heap ids⟩, x, nb, ⟨ids, rfl, e1, e2⟩, fopC_spec hx, rfl⟩)), h⟩

theorem xopS_A (hbad : ¬ good bad) (hor : OrcOk P Inv E) {o : Oper} {s : St} {K : St → T} (h : good (xopS P E bad true o s K)) : ∃ s', OpA P Inv s o s' ∧ good (K s') := by
  unfold xopS at h
  split at h
  · exact stepA_sound (xop_A hbad hor h)
  · exact xset_sound hbad h

theorem xopS_F (hbad : ¬ good bad) (hor : OrcOk P Inv E) {o : Oper} {s : St} {K : St → T} (h : good (xopS P E bad false o s K)) : ∃ s', OpF P Inv s o s' ∧ good (K s') := by
  unfold xopS at h
  split at h
  · exact stepF_sound (xop_F hbad hor h)
  · exact (hbad h).elim

theorem xOps_sound (hbad : ¬ good bad) {imp : Bool} {Step : St → Oper → St → Prop} (hstep : ∀ o s (K : St → T), good (xopS P E bad imp o s K) → ∃ s', Step s o s' ∧ good (K s')) {ops : Array Oper} :
    ∀ (l : List Oper) (s : St) (K : St → T), good (xOps P E bad imp ops l s K) → ∃ s', Path Step ops l s s' ∧ good (K s')
  | [], s, K, h => ⟨s, .nil s, h⟩
  | o :: rest, s, K, h => by
    have run : ∀ s : St, awanted ops s.tmps o = some true → good (xopS P E bad imp o s fun s' => xOps P E bad imp ops rest s' K) → ∃ s', Path Step ops (o :: rest) s s' ∧ good (K s') := fun s hg h => by
      obtain ⟨s1, h1, h2⟩ := hstep _ _ _ h
      obtain ⟨s2, h3, h4⟩ := xOps_sound hbad hstep rest s1 K h2
      exact ⟨s2, .run hg h1 h3, h4⟩
    have skip : ∀ s : St, awanted ops s.tmps o = some false → good (putK s.tmps o.dst (.tuple []) fun ts => xOps P E bad imp ops rest ⟨ts, s.heap⟩ K) → ∃ s', Path Step ops (o :: rest) s s' ∧ good (K s') := fun s hg h => by
      rw [putK_eq] at h
      obtain ⟨s2, h3, h4⟩ := xOps_sound hbad hstep rest _ K h
      exact ⟨s2, .skip hg h3, h4⟩
    unfold xOps xguard at h
    split at h
    · rename_i hg
      exact run s (by simp [awanted, hg]) h
    · rename_i j want hg
      split at h
      · rename_i hd
        refine skip s ?_ h
        have : (ops[j]?).bind (·.dst) = none := hd
        simp [awanted, hg, ayield, this]
      · rename_i d hd
        have hd' : (ops[j]?).bind (·.dst) = some d := hd
        split at h
        · rename_i ht
          refine skip s ?_ h
          simp [awanted, hg, ayield, hd', ht]
        · rename_i t ht
          have haw : awanted ops s.tmps o = some (t == want) := by simp [awanted, hg, ayield, hd', ht]
          cases t with
          | true =>
            simp only [br] at h
            rw [setK_eq, set_same ht] at h
            cases want with
            | true => exact run s haw h
            | false => exact skip s haw h
          | false =>
            simp only [br] at h
            rw [setK_eq, set_same ht] at h
            cases want with
            | true => exact skip s haw h
            | false => exact run s haw h
        · rename_i vs ht
          refine skip s ?_ h
          simp [awanted, hg, ayield, hd', ht]
        · exact (hbad h).elim

theorem xTail_sound (hbad : ¬ good bad) (hor : OrcOk P Inv E) {ops : Array Oper} {m : Nat} :
    ∀ (l : List Oper) (k : Nat) (s : St) (K : St → T), good (xTail P E bad ops m k l s K) → ∃ s', TPath P Inv ops m k l s s' ∧ good (K s')
  | [], k, s, K, h => ⟨s, .nil k s, h⟩
  | o :: rest, k, s, K, h => by
    have hstep : ∀ (s : St) (K : St → T), good (xopS P E bad true o s K) → ∃ s', OpA P Inv s o s' ∧ good (K s') := fun s K h => xopS_A hbad hor h
    unfold xTail at h
    split at h
    · rename_i hml
      have run : ∀ s : St, awanted ops s.tmps o = some true → good (xopS P E bad true o s fun s' => xTail P E bad ops m (k + 1) rest s' K) → ∃ s', TPath P Inv ops m k (o :: rest) s s' ∧ good (K s') := fun s hg h => by
        obtain ⟨s1, h1, h2⟩ := hstep _ _ h
        obtain ⟨s2, h3, h4⟩ := xTail_sound hbad hor rest (k + 1) s1 K h2
        exact ⟨s2, .run [] hml.symm hg h1 h3, h4⟩
      have skip : ∀ s : St, awanted ops s.tmps o = some false → good (putK s.tmps o.dst (.tuple []) fun ts => xTail P E bad ops m (k + 1) rest ⟨ts, s.heap⟩ K) → ∃ s', TPath P Inv ops m k (o :: rest) s s' ∧ good (K s') := fun s hg h => by
        rw [putK_eq] at h
        obtain ⟨s2, h3, h4⟩ := xTail_sound hbad hor rest (k + 1) _ K h
        exact ⟨s2, .skip [] hml.symm hg h3, h4⟩
      unfold xguard at h
      split at h
      · rename_i hg
        exact run s (by simp [awanted, hg]) h
      · rename_i j want hg
        split at h
        · rename_i hd
          refine skip s ?_ h
          have : (ops[j]?).bind (·.dst) = none := hd
          simp [awanted, hg, ayield, this]
        · rename_i d hd
          have hd' : (ops[j]?).bind (·.dst) = some d := hd
          split at h
          · rename_i ht
            refine skip s ?_ h
            simp [awanted, hg, ayield, hd', ht]
          · rename_i t ht
            have haw : awanted ops s.tmps o = some (t == want) := by simp [awanted, hg, ayield, hd', ht]
            cases t with
            | true =>
              simp only [br] at h
              rw [setK_eq, set_same ht] at h
              cases want with
              | true => exact run s haw h
              | false => exact skip s haw h
            | false =>
              simp only [br] at h
              rw [setK_eq, set_same ht] at h
              cases want with
              | true => exact skip s haw h
              | false => exact run s haw h
          · rename_i vs ht
            refine skip s ?_ h
            simp [awanted, hg, ayield, hd', ht]
          · exact (hbad h).elim
    · rename_i d ds hml
      split at h
      case h_2 => exact (hbad h).elim
      rename_i hg
      rw [forces_eq] at h
      obtain ⟨s1, h1, h2⟩ := hstep _ _ h
      rw [forces_eq] at h2
      obtain ⟨s2, h3, h4⟩ := xTail_sound hbad hor rest (k + 1) _ K h2
      exact ⟨s2, .run (d :: ds) hml.symm (by simp [awanted, hg]) h1 h3, h4⟩

theorem xReg_sound (hmx : P.follows .mixedOrders = true) (hIo : InvOk Inv) (hbad : ¬ good bad) (hor : OrcOk P Inv E) {id : Nat} {ops : Array Oper} {draw : Bool} {s : St} {K : Exit → St → T} (h : good (xReg P E bad ops draw s (K .normal))) : Does P Inv (.region id ops draw) (fun e s' => good (K e s')) s := by
  have hA : ∀ o s (K : St → T), good (xopS P E bad true o s K) → ∃ s', OpA P Inv s o s' ∧ good (K s') := fun o s K h => xopS_A hbad hor h
  have hF : ∀ o s (K : St → T), good (xopS P E bad false o s K) → ∃ s', OpF P Inv s o s' ∧ good (K s') := fun o s K h => xopS_F hbad hor h
  unfold xReg at h
  cases draw with
  | false =>
    simp only [Bool.false_eq_true, if_false] at h
    obtain ⟨s', h1, h2⟩ := xOps_sound hbad hA _ _ _ h
    exact sem_region hIo h1 h2
  | true =>
    simp only [if_true] at h
    split at h
    case isFalse => exact (hbad h).elim
    rename_i hc
    simp only [Bool.and_eq_true, decide_eq_true_eq] at hc
    obtain ⟨s1, h1, h⟩ := xOps_sound hbad hF _ _ _ h
    obtain ⟨s2, h2, h⟩ := xTail_sound hbad hor _ _ _ _ h
    exact sem_draw hmx hIo _ hc.2 hc.1 h1 h2 h

/-- A loop, a round at a time. -/
theorem xloop_sound (hbad : ¬ good bad) {c : Code} {R : St → (Exit → St → T) → T} (hR : ∀ s (K : Exit → St → T), good (R s K) → Does P Inv c (fun e s' => good (K e s')) s) {n : Nat} {s : St} {K : Exit → St → T} (h : good (xloop bad R n s K)) : Does P Inv (.loop c) (fun e s' => good (K e s')) s :=
  sem_loopN (fun n s => good (xloop bad R n s K)) (Weak.refl _ _) h fun n s hs => by
    cases n with
    | zero => exact (hbad hs).elim
    | succ n =>
      refine sem_mono (hR s _ hs) fun e s' h => ?_
      cases e with
      | normal => exact ⟨n, s', Nat.lt_succ_self n, Weak.refl _ _, h⟩
      | _ => exact h

theorem xpiece_or (hpin : Inv.pin = E.pin) (hbad : ¬ good bad) {lp : Lp} {s : St} {K : Exit → St → T} {F : T} (h : good (xpiece E bad lp s K F)) :
    good F ∨ ∃ vals H0 r, lp.run vals H0 = some (true, r) ∧ Weak Inv.pin s ⟨mkTs E.nt (lp.live.zip vals), H0⟩ ∧ good (K r.eval.1 ⟨mkTs E.nt (lp.liveO.zip r.eval.2.1), r.eval.2.2⟩) := by
  unfold xpiece at h
  split at h
  case h_2 => exact .inl h
  rename_i vals H0 hno
  rw [forces_eq, forceH_eq] at h
  split at h
  case h_2 => exact .inl h
  rename_i b r hlo
  have ⟨h0, h1⟩ := br_good hbad h
  clear h
  have ⟨hb, h⟩ := br_good hbad h1
  clear h1
  subst hb
  have h := LR.run_good h
  rw [forces_eq, forceH_eq] at h
  have hlen := Nat.eq_of_beq_eq_true h0
  have hw := normS_weak hno
  rw [← hpin, hlen] at hw
  exact .inr ⟨vals, H0, r, hlo, hw, h⟩

theorem xpiece_sound (hpin : Inv.pin = E.pin) (hbad : ¬ good bad) {d : Code} {lp : Lp} (hok : PieceOk P Inv E.nt d lp) {s : St} {K : Exit → St → T} (h : good (xpiece E bad lp s K bad)) : Does P Inv d (fun e s' => good (K e s')) s := by
  rcases xpiece_or hpin hbad h with h | ⟨vals, H0, r, h1, h2, h3⟩
  · exact (hbad h).elim
  · exact does_weak h2 (sem_mono (hok _ _ _ h1) fun e1 s1 ⟨g1, g2⟩ => by rw [g1, g2]; exact h3)

theorem xpeel_sound (hpin : Inv.pin = E.pin) (hbad : ¬ good bad) {c : Code} {lp : Lp} (hok : LoopOk P Inv E.nt c lp) {R : St → (Exit → St → T) → T} (hR : ∀ s (K : Exit → St → T), good (R s K) → Does P Inv c (fun e s' => good (K e s')) s) :
    ∀ (n : Nat) (s : St) (K : Exit → St → T), good (xpeel E bad lp R n s K) → DoesL P Inv c (fun e s' => good (K e s')) s
  | 0, s, K, h => by
    rcases xpiece_or hpin hbad h with h | ⟨vals, H0, r, h1, h2, h3⟩
    · exact (hbad h).elim
    · exact doesL_weak h2 (semL_mono (hok _ _ _ h1) fun e1 s1 ⟨g1, g2⟩ => by rw [g1, g2]; exact h3)
  | n + 1, s, K, h => by
    rcases xpiece_or hpin hbad h with h | ⟨vals, H0, r, h1, h2, h3⟩
    · refine semL_round (sem_mono (hR s _ h) fun e s' h => ?_)
      cases e with
      | normal => exact xpeel_sound hpin hbad hok hR n s' K h
      | _ => exact h
    · exact doesL_weak h2 (semL_mono (hok _ _ _ h1) fun e1 s1 ⟨g1, g2⟩ => by rw [g1, g2]; exact h3)

theorem X_sound (hmx : P.follows .mixedOrders = true) (hIo : InvOk Inv) (hpin : Inv.pin = E.pin) (hbad : ¬ good bad) (hor : OrcOk P Inv E) : ∀ (c : Code) (s : St) (K : Exit → St → T), LoOk P Inv E c → good (X P E bad c s K) → Does P Inv c (fun e s' => good (K e s')) s
  | .skip, s, K, _, h => sem_skip h
  | .region id ops draw, s, K, _, h => xReg_sound hmx hIo hbad hor h
  | .seq a b, s, K, hl, h => sem_seq (sem_mono (X_sound hmx hIo hpin hbad hor a s _ (hl.sub (fun l hm => by simp [loopsOf, hm]) (fun l hm => by simp [condsOf, hm])) h) fun e s' hq => by
    cases e with
    | normal => exact X_sound hmx hIo hpin hbad hor b s' K (hl.sub (fun l hm => by simp [loopsOf, hm]) (fun l hm => by simp [condsOf, hm])) hq
    | _ => exact hq)
  | .cond c a b, s, K, hl, h => by
    unfold X at h
    split at h
    · rename_i lp hlp
      exact xpiece_sound hpin hbad (hl.2 (.cond c a b) (by simp [condsOf]) lp hlp) h
    split at h
    case h_2 => exact (hbad h).elim
    rename_i t ht
    refine sem_cond ht (fun e => ?_) (fun e => ?_)
    · subst e; exact X_sound hmx hIo hpin hbad hor a s K (hl.sub (fun l hm => by simp [loopsOf, hm]) (fun l hm => by simp [condsOf, hm])) h
    · subst e; exact X_sound hmx hIo hpin hbad hor b s K (hl.sub (fun l hm => by simp [loopsOf, hm]) (fun l hm => by simp [condsOf, hm])) h
  | .block id c, s, K, hl, h => sem_block (sem_mono (X_sound hmx hIo hpin hbad hor c s _ (hl.sub (fun l hm => by simpa [loopsOf] using hm) (fun l hm => by simpa [condsOf] using hm)) h) fun e s' hq => by
    cases e with
    | exit id' =>
      simp only [blockQ]
      split
      · rename_i hid; simp only [hid, if_true] at hq; exact hq
      · rename_i hid; simp only [hid, if_false] at hq; exact hq
    | _ => exact hq)
  | .loop c, s, K, hl, h => by
    unfold X at h
    split at h
    · rename_i lp hlp
      exact sem_ofL (xpeel_sound hpin hbad (hl.1 c (by simp [loopsOf]) lp hlp) (fun s K h => X_sound hmx hIo hpin hbad hor c s K (hl.sub (fun l hm => by simp [loopsOf, hm]) (fun l hm => by simp [condsOf, hm])) h) _ _ _ h)
    · exact xloop_sound hbad (fun s K h => X_sound hmx hIo hpin hbad hor c s K (hl.sub (fun l hm => by simp [loopsOf, hm]) (fun l hm => by simp [condsOf, hm])) h) h
  | .exit id, s, K, _, h => sem_exit h
  | .ret, s, K, _, h => sem_ret h
  | .rangeFunc .., s, K, _, h => (hbad (by simpa [X] using h)).elim
  | .scope _, s, K, _, h => (hbad (by simpa [X] using h)).elim
  | .label _, s, K, _, h => (hbad (by simpa [X] using h)).elim
  | .goto _, s, K, _, h => (hbad (by simpa [X] using h)).elim
  | .refuse _, s, K, _, h => (hbad (by simpa [X] using h)).elim
end sound

/-! ### Whole functions -/

def resValC (P : Program) (ls : TypeId → Bool) (s : St) : ResultVar → Option (Bool × AV)
  | .tmp t => some (true, s.tmps.getD t .top)
  | .cell a t => match tinfo P t with
    | some ti => loadAtC P ls t s.heap ti (s.tmps.getD a .top)
    | none => none

theorem resValC_spec {P : Program} {ls : TypeId → Bool} {s : St} {r : ResultVar} {x : AV} (hx : resValC P ls s r = some (true, x)) : resVal P s r = some x := by
  cases r with
  | tmp t => simpa [resValC, resVal] using hx
  | cell a t =>
    simp only [resValC] at hx
    simp only [resVal]
    split at hx
    case h_2 => simp at hx
    rename_i ti hti
    simp only [hti]
    exact loadAtC_spec hx

def resAllC (P : Program) (ls : TypeId → Bool) (s : St) : List ResultVar → Option (Bool × List AV)
  | [] => some (true, [])
  | r :: rs => match resValC P ls s r with
    | some (b, x) => match resC s.heap rfuel x with
      | some (b', y) => match resAllC P ls s rs with
        | some (b'', ys) => some (b && (b' && b''), y :: ys)
        | none => none
      | none => none
    | none => none

theorem resAllC_spec {P : Program} {ls : TypeId → Bool} {s : St} : ∀ {rs : List ResultVar} {ys : List AV}, resAllC P ls s rs = some (true, ys) → resAll P s rs = some ys
  | [], ys, h => by simp only [resAllC, Option.some.injEq, Prod.mk.injEq, true_and] at h; subst h; rfl
  | r :: rs, ys, h => by
    unfold resAllC at h
    split at h
    case h_2 => simp at h
    rename_i b x hx
    split at h
    case h_2 => simp at h
    rename_i b' y hy
    split at h
    case h_2 => simp at h
    rename_i b'' zs hz
    simp only [Option.some.injEq, Prod.mk.injEq, Bool.and_eq_true] at h
    obtain ⟨⟨rfl, rfl, rfl⟩, rfl⟩ := h
    unfold resAll
    simp only [resValC_spec hx, resAllC_spec hz, resC_spec _ _ _ hy]

def finK (P : Program) (ls : TypeId → Bool) (rs : List ResultVar) (s : St) : Option AV :=
  match resAllC P ls s rs with
  | some (b, xs) => br b (forces xs fun ys => some (oneOrTuple ys)) none
  | none => none

def endK (P : Program) (ls : TypeId → Bool) (rs : List ResultVar) : Exit → St → Option AV
  | .ret, s => finK P ls rs s
  | .normal, s => finK P ls rs s
  | _, _ => none

/-- What a function's body gives, called with 'args'. -/
def XF (P : Program) (E : Env) (fn : Func) (c : Code) (args : List AV) : Option AV :=
  forces (args ++ List.replicate (fn.ntmps - args.length) (.tuple [])) fun ts => X P E none c ⟨ts, []⟩ (endK P E.ls fn.results.toList)

/-- A CONTRACT BY THE EXECUTOR. -/
theorem good_of_XF {P : Program} {Inv : IV} {E : Env} (hmx : P.follows .mixedOrders = true) (hIo : InvOk Inv) (hpin : Inv.pin = E.pin) (hor : OrcOk P Inv E) {f : FuncId} {fn : Func} {c : Code} {args : List AV} {r : AV} (hf : P.funcs[f]? = some fn) (hb : fn.body = some c) (hname : (fn.name == "runtime.NumGoroutine") = false)
    (hl : LoOk P Inv E c) (h : XF P E fn c args = some r) : Good P Inv f args r := by
  refine good_of hIo hf hb hname ?_
  unfold XF at h
  rw [forces_eq] at h
  refine sem_mono (X_sound (good := fun t => t = some r) hmx hIo hpin (by simp) hor c _ _ hl h) fun e s hq => ?_
  have fin : ∀ s, finK P E.ls fn.results.toList s = some r → resultOf P fn.results.toList s = some r := fun s h => by
    unfold finK at h
    split at h
    case h_2 => simp at h
    rename_i b xs hx
    obtain ⟨rfl, h⟩ := br_good (good := fun t => t = some r) (by simp) h
    rw [forces_eq] at h
    unfold resultOf
    rw [resAllC_spec hx]
    exact h
  cases e with
  | ret => exact ⟨.inl rfl, fin s hq⟩
  | normal => exact ⟨.inr rfl, fin s hq⟩
  | _ => simp [endK] at hq

/-! ### Functions that write into boxes of their caller's -/

def resAllM (P : Program) (s : St) : List ResultVar → Option (List AV)
  | [] => some []
  | r :: rs => match resVal P s r with
    | some x => match resAllM P s rs with
      | some xs => some (x :: xs)
      | none => none
    | none => none

theorem resAllM_run {P : Program} {w0 w : World} {A0 : Cx} {A : Nat → Prop} {M : Nat → Option MB} {s : St} {a : Act} (hs : SR w0 A0 w A M s a) : ∀ {rs : List ResultVar} {xs : List AV}, resAllM P s rs = some xs →
    ∃ vs, (rs.mapM (resF a.tmps)).run P w = .ok vs w ∧ RC w A M vs xs
  | [], xs, h => by
    simp only [resAllM, Option.some.injEq] at h; subst h
    exact ⟨[], by simp, rfl, by simp⟩
  | r :: rs, xs, h => by
    unfold resAllM at h
    split at h
    case h_2 => simp at h
    rename_i x hx
    split at h
    case h_2 => simp at h
    rename_i ys hys
    simp only [Option.some.injEq] at h; subst h
    obtain ⟨v, hv, hrv⟩ := resVal_run hs hx
    obtain ⟨vs, hvs, hrc⟩ := resAllM_run hs hys
    refine ⟨v :: vs, ?_, by simp [hrc.1], fun i hi => ?_⟩
    · rw [List.mapM_cons]
      simp only [Sem.run_bind, hv, hvs, Result.andThen_ok, Sem.run_pure]
    · cases i with
      | zero => simpa using hrv
      | succ i => have := hrc.2 i (by simp at hi; omega); simpa using this

theorem resultsM_run {P : Program} {w0 w : World} {A0 : Cx} {A : Nat → Prop} {M : Nat → Option MB} {s : St} {a : Act} (hs : SR w0 A0 w A M s a) {fn : Func} {xs : List AV} (h : resAllM P s fn.results.toList = some xs) :
    ∃ v, (results fn a.tmps).run P w = .ok v w ∧ Rel w A M v (oneOrTuple xs) := by
  obtain ⟨vs, hvs, hrc⟩ := resAllM_run (P := P) hs h
  refine ⟨if h : vs.toArray.size = 1 then vs.toArray[0] else .tuple vs.toArray, ?_, ?_⟩
  · rw [results_eq, Array.mapM_eq_mapM_toList]
    simp only [Sem.run_bind, Sem.run_map, hvs, Result.andThen_ok, Sem.run_pure]
  · have hl := hrc.1
    have hr := hrc.2
    match vs, xs, hl, hr with
    | [v], [x], _, hr => simpa [oneOrTuple] using hr 0 (by simp)
    | [], [], _, _ => simpa [oneOrTuple] using Rel.tuple (w := w) (A := A) (M := M) #[] [] rfl (by simp)
    | v1 :: v2 :: vs, x1 :: x2 :: xs, hl, hr =>
      have hne : ¬ (v1 :: v2 :: vs).toArray.size = 1 := by simp
      rw [dif_neg hne]
      simp only [oneOrTuple]
      refine .tuple _ _ (by simpa using hl) fun i hi => ?_
      rw [getD_toArray]
      exact hr i hi

/-- A contract of a function that writes, out of its body; the boxes are numbered anew at the end. -/
theorem goodM_of {P : Program} {Inv : IV} (hIo : InvOk Inv) {f : FuncId} {fn : Func} {c : Code} {args : List AV} {r : AV} {H H' : List Box} (hf : P.funcs[f]? = some fn) (hb : fn.body = some c) (hname : (fn.name == "runtime.NumGoroutine") = false) (hpin : H.length = Inv.pin)
    (h : Does P Inv c (fun e s => (e = .ret ∨ e = .normal) ∧ ∃ xs ids, resAllM P s fn.results.toList = some xs ∧ nodupB ids = true ∧ pinsOk Inv.pin 0 ids = true ∧ normH Inv.pin (normF Inv.pin ids s.heap) s.heap 0 ids = some H' ∧ ren (normF Inv.pin ids s.heap) (oneOrTuple xs) = r) ⟨args ++ List.replicate (fn.ntmps - args.length) (.tuple []), H⟩) : GoodM P Inv f args H r H' := by
  refine ⟨⟨fn, hf, by rw [hb]; rfl, hname⟩, fun w0 w A M vs hI hbase hR hrc => ?_⟩
  refine calls_of_wp hf hb ?_
  refine h w0 ⟨A, w, A, M, H.length⟩ w A M _ _ hI (by simp only []; omega) ⟨hbase, fun _ _ => Iff.rfl, ?_, fun t ht => ?_, hR, rfl, Ev.refl (C := ⟨A, w, A, M, H.length⟩)⟩ ?_
  · simp [hrc.1]
  · simp only [List.length_append, List.length_replicate] at ht
    have hl := hrc.1
    by_cases hta : t < args.length
    · have e1 : (vs.toArray ++ Array.replicate (fn.ntmps - vs.toArray.size) undef).getD t undef = vs.getD t undef := by
        have : t < vs.length := by omega
        simp [List.getD_eq_getElem?_getD, Array.getElem?_append, this]
      have e2 : (args ++ List.replicate (fn.ntmps - args.length) (AV.tuple [])).getD t .top = args.getD t .top := by
        simp [List.getD_eq_getElem?_getD, List.getElem?_append, hta]
      rw [e1, e2]; exact hrc.2 t hta
    · have h1 : ¬ t < vs.length := by omega
      have e1 : (vs.toArray ++ Array.replicate (fn.ntmps - vs.toArray.size) undef).getD t undef = undef := by
        have h2 : t - vs.length < fn.ntmps - vs.length := by omega
        simp [Array.getElem?_append, h1, h2]
      have e2 : (args ++ List.replicate (fn.ntmps - args.length) (AV.tuple [])).getD t .top = .tuple [] := by
        have h2 : t - args.length < fn.ntmps - args.length := by omega
        simp [List.getD_eq_getElem?_getD, List.getElem?_append, hta, h2]
      rw [e1, e2]
      exact .tuple #[] [] rfl (by simp)
  · rintro e s' a' w' ⟨he, xs, ids, hx, hnd, hpo, hnh, rfl⟩ ⟨A', M', hs'⟩
    obtain ⟨v, hv, hrel⟩ := resultsM_run (P := P) hs' hx
    obtain ⟨M2, g1, g2, g3, g4⟩ := hs'.heap.norm hnd hpo hnh
    have : bodyPost P fn (fun e w' => ∃ v A' M', e = .returned v ∧ Below w0.heap.size w0 w' ∧ (∀ b, b < w0.heap.size → (A' b ↔ A b)) ∧ Ev ⟨A, w, A, M, H.length⟩ w' A' M' ∧ HR w' A' M' w0.heap.size H' ∧ Rel w' A' M' v (ren (normF Inv.pin ids s'.heap) (oneOrTuple xs))) .ret a' w' :=
      ⟨hs'.defers, v, hv, v, A', M2, rfl, hs'.base, hs'.outer, hs'.ev.norm (by simp only []; omega) g3 g4, g1, hrel.ren g2⟩
    rcases he with rfl | rfl <;> exact this

def resAllMC (P : Program) (ls : TypeId → Bool) (s : St) : List ResultVar → Option (Bool × List AV)
  | [] => some (true, [])
  | r :: rs => match resValC P ls s r with
    | some (b, x) => match resAllMC P ls s rs with
      | some (b', xs) => some (b && b', x :: xs)
      | none => none
    | none => none

theorem resAllMC_spec {P : Program} {ls : TypeId → Bool} {s : St} : ∀ {rs : List ResultVar} {ys : List AV}, resAllMC P ls s rs = some (true, ys) → resAllM P s rs = some ys
  | [], ys, h => by simp only [resAllMC, Option.some.injEq, Prod.mk.injEq, true_and] at h; subst h; rfl
  | r :: rs, ys, h => by
    unfold resAllMC at h
    split at h
    case h_2 => simp at h
    rename_i b x hx
    split at h
    case h_2 => simp at h
    rename_i b' zs hz
    simp only [Option.some.injEq, Prod.mk.injEq, Bool.and_eq_true] at h
    obtain ⟨⟨rfl, rfl⟩, rfl⟩ := h
    unfold resAllM
    simp only [resValC_spec hx, resAllMC_spec hz]

def finM (P : Program) (pin : Nat) (ls : TypeId → Bool) (rs : List ResultVar) (s : St) : Option (AV × List Box) :=
  match resAllMC P ls s rs with
  | some (b, xs) => br b (match nodupB (gather s.heap 1000 (List.range pin ++ refsOf.refsL xs) []) && pinsOk pin 0 (gather s.heap 1000 (List.range pin ++ refsOf.refsL xs) []) with
    | true => match normH pin (normF pin (gather s.heap 1000 (List.range pin ++ refsOf.refsL xs) []) s.heap) s.heap 0 (gather s.heap 1000 (List.range pin ++ refsOf.refsL xs) []) with
      | some H' => force (ren (normF pin (gather s.heap 1000 (List.range pin ++ refsOf.refsL xs) []) s.heap) (oneOrTuple xs)) fun r => forceH H' fun H' => some (r, H')
      | none => none
    | false => none) none
  | none => none

def endM (P : Program) (pin : Nat) (ls : TypeId → Bool) (rs : List ResultVar) : Exit → St → Option (AV × List Box)
  | .ret, s => finM P pin ls rs s
  | .normal, s => finM P pin ls rs s
  | _, _ => none

/-- What a function's body gives, called with 'args' and the boxes that they name. -/
def XFM (P : Program) (E : Env) (fn : Func) (c : Code) (args : List AV) (H : List Box) : Option (AV × List Box) :=
  forces (args ++ List.replicate (fn.ntmps - args.length) (.tuple [])) fun ts => X P E none c ⟨ts, H⟩ (endM P E.pin E.ls fn.results.toList)

/-- A CONTRACT BY THE EXECUTOR, of a function that writes. -/
theorem goodM_of_XFM {P : Program} {Inv : IV} {E : Env} (hmx : P.follows .mixedOrders = true) (hIo : InvOk Inv) (hpin : Inv.pin = E.pin) (hor : OrcOk P Inv E) {f : FuncId} {fn : Func} {c : Code} {args : List AV} {r : AV} {H H' : List Box} (hH : H.length = E.pin) (hf : P.funcs[f]? = some fn) (hb : fn.body = some c) (hname : (fn.name == "runtime.NumGoroutine") = false)
    (hl : LoOk P Inv E c) (h : XFM P E fn c args H = some (r, H')) : GoodM P Inv f args H r H' := by
  refine goodM_of hIo hf hb hname (by rw [hH, hpin]) ?_
  unfold XFM at h
  rw [forces_eq] at h
  refine sem_mono (X_sound (good := fun t => t = some (r, H')) hmx hIo hpin (by simp) hor c _ _ hl h) fun e s hq => ?_
  have fin : ∀ s, finM P E.pin E.ls fn.results.toList s = some (r, H') → ∃ xs ids, resAllM P s fn.results.toList = some xs ∧ nodupB ids = true ∧ pinsOk Inv.pin 0 ids = true ∧ normH Inv.pin (normF Inv.pin ids s.heap) s.heap 0 ids = some H' ∧ ren (normF Inv.pin ids s.heap) (oneOrTuple xs) = r := fun s h => by
    unfold finM at h
    split at h
    case h_2 => simp at h
    rename_i b xs hx
    have ⟨hb1, h1⟩ := br_good (good := fun t => t = some (r, H')) (by simp) h
    clear h
    have h := h1
    clear h1
    subst hb1
    generalize hids : gather s.heap 1000 (List.range E.pin ++ refsOf.refsL xs) [] = ids at h
    split at h
    case h_2 => simp at h
    rename_i hc
    simp only [Bool.and_eq_true] at hc
    split at h
    case h_2 => simp at h
    rename_i H1 hH1
    rw [force_eq, forceH_eq] at h
    simp only [Option.some.injEq, Prod.mk.injEq] at h
    obtain ⟨rfl, rfl⟩ := h
    rw [hpin]
    exact ⟨xs, ids, resAllMC_spec hx, hc.1, hc.2, hH1, rfl⟩
  cases e with
  | ret => exact ⟨.inl rfl, fin s hq⟩
  | normal => exact ⟨.inr rfl, fin s hq⟩
  | _ => simp [endM] at hq

/-! ### Loops by their rounds -/

/-- Rounds, until one says what comes of them. -/
def iterN {σ ρ : Type} (step : σ → Option (σ ⊕ ρ)) : Nat → σ → Option ρ
  | 0, _ => none
  | n + 1, s => match step s with
    | some (.inl s') => iterN step n s'
    | some (.inr r) => some r
    | none => none

open Classical in
/-- What comes of the rounds, if they end. -/
noncomputable def Iter {σ ρ : Type} (step : σ → Option (σ ⊕ ρ)) (s : σ) : Option ρ :=
  if h : ∃ r n, iterN step n s = some r then some h.choose else none

theorem iterN_mono {σ ρ : Type} {step : σ → Option (σ ⊕ ρ)} : ∀ {n m : Nat} {s : σ} {r : ρ}, iterN step n s = some r → n ≤ m → iterN step m s = some r
  | 0, _, _, _, h, _ => by simp [iterN] at h
  | n + 1, 0, _, _, _, hm => by omega
  | n + 1, m + 1, s, r, h, hm => by
    simp only [iterN] at h ⊢
    cases hs : step s with
    | none => rw [hs] at h; simp at h
    | some x =>
      rw [hs] at h
      cases x with
      | inl s' => exact iterN_mono (n := n) h (by omega)
      | inr r' => exact h

theorem iter_iff {σ ρ : Type} {step : σ → Option (σ ⊕ ρ)} {s : σ} {r : ρ} : Iter step s = some r ↔ ∃ n, iterN step n s = some r := by
  unfold Iter
  constructor
  · intro h
    split at h
    · rename_i hex
      obtain ⟨n, hn⟩ := hex.choose_spec
      simp only [Option.some.injEq] at h
      exact ⟨n, by rw [hn, h]⟩
    · simp at h
  · rintro ⟨n, hn⟩
    have hex : ∃ r n, iterN step n s = some r := ⟨r, n, hn⟩
    rw [dif_pos hex]
    obtain ⟨n', hn'⟩ := hex.choose_spec
    have h1 := iterN_mono hn (Nat.le_max_left n n')
    have h2 := iterN_mono hn' (Nat.le_max_right n n')
    rw [h1] at h2
    exact h2.symm

theorem iter_step {σ ρ : Type} {step : σ → Option (σ ⊕ ρ)} {s s' : σ} (h : step s = some (.inl s')) : Iter step s = Iter step s' := by
  apply Option.ext
  intro r
  rw [iter_iff, iter_iff]
  constructor
  · rintro ⟨n, hn⟩
    cases n with
    | zero => simp [iterN] at hn
    | succ n => simp only [iterN, h] at hn; exact ⟨n, hn⟩
  · rintro ⟨n, hn⟩
    exact ⟨n + 1, by simp only [iterN, h]; exact hn⟩

theorem iter_end {σ ρ : Type} {step : σ → Option (σ ⊕ ρ)} {s : σ} {r : ρ} (h : step s = some (.inr r)) : Iter step s = some r :=
  iter_iff.2 ⟨1, by simp only [iterN, h]⟩

/-- What follows a loop may know less than the loop leaves. -/
theorem sem_weak {P : Program} {Inv : IV} {c : Code} {s : St} {Q : Exit → St → Prop} (h : Does P Inv c (fun e s1 => ∃ s', Weak Inv.pin s1 s' ∧ Q e s') s) : Does P Inv c Q s :=
  fun w0 A0 w A M a Qc hI hp hs hQ => h w0 A0 w A M a Qc hI hp hs fun e s1 a' w' ⟨s', hw, hq⟩ ⟨A', M', hs'⟩ => by
    obtain ⟨M'', hs''⟩ := hw w0 A0 w' A' M' a' hp hs'
    exact hQ e s' a' w' hq ⟨A', M'', hs''⟩

theorem semL_weak {P : Program} {Inv : IV} {c : Code} {s : St} {Q : Exit → St → Prop} (h : DoesL P Inv c (fun e s1 => ∃ s', Weak Inv.pin s1 s' ∧ Q e s') s) : DoesL P Inv c Q s :=
  fun w0 A0 w A M a Qc hI hp hs hQ => h w0 A0 w A M a Qc hI hp hs fun e s1 a' w' ⟨s', hw, hq⟩ ⟨A', M', hs'⟩ => by
    obtain ⟨M'', hs''⟩ := hw w0 A0 w' A' M' a' hp hs'
    exact hQ e s' a' w' hq ⟨A', M'', hs''⟩

/-- One round, its end numbered anew. -/
def XR (P : Program) (E : Env) (live liveO : List Nat) (conv : List (Nat × Nat × TypeId)) (c : Code) (vals : List AV) (H : List Box) : Option (Exit × List AV × List Box) :=
  forces (mkTs E.nt (live.zip vals)) fun ts => X P E none c ⟨ts, H⟩ fun e s' => match e with
    | .normal => match normS E.pin conv live s' with
      | some (vs, H') => forces vs fun vs => forceH H' fun H' => br (Nat.beq s'.tmps.length E.nt) (some (.normal, vs, H')) none
      | none => none
    | e => match normS E.pin [] liveO s' with
      | some (vs, H') => forces vs fun vs => forceH H' fun H' => br (Nat.beq s'.tmps.length E.nt) (some (e, vs, H')) none
      | none => none

/-- A piece of code, run once; its end numbered anew. -/
def XC (P : Program) (E : Env) (live liveO : List Nat) (c : Code) (vals : List AV) (H : List Box) : Option (Exit × List AV × List Box) :=
  forces (mkTs E.nt (live.zip vals)) fun ts => X P E none c ⟨ts, H⟩ fun e s' => match normS E.pin [] liveO s' with
    | some (vs, H') => forces vs fun vs => forceH H' fun H' => br (Nat.beq s'.tmps.length E.nt) (some (e, vs, H')) none
    | none => none

/-- A PIECE BY ITS RUN. -/
theorem piece_of_XC {P : Program} {Inv : IV} {E : Env} (hmx : P.follows .mixedOrders = true) (hIo : InvOk Inv) (hpin : Inv.pin = E.pin) (hor : OrcOk P Inv E) {c : Code} (hlo : LoOk P Inv E c) {live liveO : List Nat} {vals : List AV} {H : List Box} {r : LR}
    (h : XC P E live liveO c vals H = some r.eval) : Does P Inv c (fun e1 s1 => e1 = r.eval.1 ∧ s1 = ⟨mkTs E.nt (liveO.zip r.eval.2.1), r.eval.2.2⟩) ⟨mkTs E.nt (live.zip vals), H⟩ := by
  unfold XC at h
  rw [forces_eq] at h
  refine sem_weak (sem_mono (X_sound (good := fun t => t = some r.eval) hmx hIo hpin (by simp) hor c _ _ hlo h) fun e s' hq => ?_)
  split at hq
  case h_2 => simp at hq
  rename_i vs1 H1 hno
  rw [forces_eq, forceH_eq] at hq
  obtain ⟨h1, h2⟩ := br_good (good := fun t => t = some r.eval) (by simp) hq
  have hw := normS_weak hno
  rw [Nat.eq_of_beq_eq_true h1, ← hpin] at hw
  simp only [Option.some.injEq] at h2
  exact ⟨_, hw, by rw [← h2], by rw [← h2]⟩

/-- A round as a step: the next round's head, or the loop's end. -/
def encR {σ ρ : Type} (L : σ → List AV × List Box) (out : ρ → LR) : σ ⊕ ρ → Exit × List AV × List Box
  | .inl s => (.normal, (L s).1, (L s).2)
  | .inr r => (out r).eval

/-- A LOOP BY ITS ROUNDS. -/
theorem loop_of_XR {σ ρ : Type} {P : Program} {Inv : IV} {E : Env} (hmx : P.follows .mixedOrders = true) (hIo : InvOk Inv) (hpin : Inv.pin = E.pin) (hor : OrcOk P Inv E) {c : Code} (hlo : LoOk P Inv E c) {live liveO : List Nat} {conv : List (Nat × Nat × TypeId)} {step : σ → Option (σ ⊕ ρ)} (L : σ → List AV × List Box) (out : ρ → LR)
    (hout : ∀ r, (out r).eval.1 ≠ .normal)
    (round : ∀ s r, step s = some r → XR P E live liveO conv c (L s).1 (L s).2 = some (encR L out r)) {s : σ} {r : ρ} (h : Iter step s = some r) :
    DoesL P Inv c (fun e1 s1 => e1 = (out r).eval.1 ∧ s1 = ⟨mkTs E.nt (liveO.zip (out r).eval.2.1), (out r).eval.2.2⟩) ⟨mkTs E.nt (live.zip (L s).1), (L s).2⟩ := by
  obtain ⟨n, hn⟩ := iter_iff.1 h
  refine semL_weak (sem_headN (fun n s => ∃ b, iterN step n b = some r ∧ s = ⟨mkTs E.nt (live.zip (L b).1), (L b).2⟩) (n0 := n) (Weak.refl _ _) ⟨s, hn, rfl⟩ ?_)
  rintro n s1 ⟨b, hb, rfl⟩
  have run : ∀ (e0 : Exit) (vs : List AV) (H' : List Box), XR P E live liveO conv c (L b).1 (L b).2 = some (e0, vs, H') → Does P Inv c (fun e s' => e = e0 ∧ Weak Inv.pin s' ⟨mkTs E.nt ((match e with | .normal => live | _ => liveO).zip vs), H'⟩) ⟨mkTs E.nt (live.zip (L b).1), (L b).2⟩ := fun e0 vs H' hx => by
    unfold XR at hx
    rw [forces_eq] at hx
    refine sem_mono (X_sound (good := fun t => t = some (e0, vs, H')) hmx hIo hpin (by simp) hor c _ _ hlo hx) fun e s' hq => ?_
    have key : ∀ (cv : List (Nat × Nat × TypeId)) (lv : List Nat) (e' : Exit), (match normS E.pin cv lv s' with
        | some (vs, H') => forces vs fun vs => forceH H' fun H' => br (Nat.beq s'.tmps.length E.nt) (some (e', vs, H')) none
        | none => none) = some (e0, vs, H') → e' = e0 ∧ Weak Inv.pin s' ⟨mkTs E.nt (lv.zip vs), H'⟩ := fun cv lv e' hq => by
      split at hq
      case h_2 => simp at hq
      rename_i vs1 H1 hno
      rw [forces_eq, forceH_eq] at hq
      obtain ⟨h1, h2⟩ := br_good (good := fun t => t = some (e0, vs, H')) (by simp) hq
      simp only [Option.some.injEq, Prod.mk.injEq] at h2
      obtain ⟨rfl, rfl, rfl⟩ := h2
      have hw := normS_weak hno
      rw [Nat.eq_of_beq_eq_true h1, ← hpin] at hw
      exact ⟨rfl, hw⟩
    cases e with
    | normal => exact key conv live .normal hq
    | exit id => exact key [] liveO (.exit id) hq
    | ret => exact key [] liveO .ret hq
    | goto l => exact key [] liveO (.goto l) hq
    | panic ch => exact key [] liveO (.panic ch) hq
    | outgrown => exact key [] liveO .outgrown hq
  cases n with
  | zero => simp [iterN] at hb
  | succ n =>
    unfold iterN at hb
    split at hb
    · rename_i b' hs
      have hx := round b _ hs
      refine sem_mono (run _ _ _ hx) fun e s' ⟨he, hw⟩ => ?_
      subst he
      exact ⟨n, _, Nat.lt_succ_self n, hw, b', hb, rfl⟩
    · rename_i r' hs
      simp only [Option.some.injEq] at hb
      subst hb
      have hx := round b _ hs
      refine sem_mono (run _ _ _ hx) fun e s' ⟨he, hw⟩ => ?_
      have hne := hout r'
      rw [← he] at hne
      have : ∃ s'', Weak Inv.pin s' s'' ∧ e = (out r').eval.1 ∧ s'' = ⟨mkTs E.nt (liveO.zip (out r').eval.2.1), (out r').eval.2.2⟩ := by
        refine ⟨_, ?_, he, rfl⟩
        cases e <;> first | exact (hne rfl).elim | exact hw
      cases e with
      | normal => exact (hne rfl).elim
      | _ => exact this
    · simp at hb

end Go.Sim
