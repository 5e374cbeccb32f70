/- The executor: code run on abstract states by contracts of the functions that it calls, and that what it says holds. -/
import Derived.Test.YtkoepgogaojgmaaDoorSimR
set_option linter.unusedVariables false
set_option linter.unusedSimpArgs false
set_option linter.unnecessarySimpa false
namespace Go.Sim
open Go.RowKit

/-! ### Handing values on, with premises -/

def mapC (r : AV → Option (Bool × AV)) : List AV → Option (Bool × List AV)
  | [] => some (true, [])
  | x :: xs => match r x with
    | some (b, y) => match mapC r xs with
      | some (c, ys) => some (b && c, y :: ys)
      | none => none
    | none => none

def resEC (r : AV → Option (Bool × AV)) : AV → Option (Bool × AV)
  | .agg cs => match mapC r cs with
    | some (b, ds) => some (b, .agg ds)
    | none => none
  | x => r x

def flat1 : AV → Bool
  | .int _ _ => true
  | .str _ => true
  | .bool _ => true
  | _ => false

/-- Boxes of this type hold plain data alone. -/
def flatTy (P : Program) (t : TypeId) : Bool := match tinfo P t with
  | some ti => ti.zero.cells.all flat1
  | none => false

def resC (P : Program) (pm : Bool) (H : List Box) : Nat → AV → Option (Bool × AV)
  | 0, x => some (x.pure, x)
  | n + 1, x => match x with
    | .agg cs => match mapC (resC P pm H n) cs with
      | some (b, ds) => some (b, .agg ds)
      | none => none
    | .func f cs => match mapC (resC P pm H n) cs with
      | some (b, ds) => some (b, .func f ds)
      | none => none
    | .own id ver i j => match getV H id ver with
      | some (bv, bx) => if (pm || flatTy P bx.ty) = true then some (bv && (AV.pures bx.xs && decide (i < bx.xs.length)), .eptr bx.sz bx.xs i j)
        else match mapC (resEC (resC P pm H n)) bx.xs with
          | some (b, ys) => some (bv && (b && decide (i < bx.xs.length)), .eptr bx.sz ys i j)
          | none => none
      | none => none
    | .osl id ver off len => match getV H id ver with
      | some (bv, bx) => if (pm || flatTy P bx.ty) = true then some (bv && (AV.pures ((bx.xs.drop off).take len) && decide (off + len ≤ bx.xs.length)), .list bx.sz ((bx.xs.drop off).take len))
        else match mapC (resEC (resC P pm H n)) ((bx.xs.drop off).take len) with
          | some (b, ys) => some (bv && (b && decide (off + len ≤ bx.xs.length)), .list bx.sz ys)
          | none => none
      | none => none
    | x => some (x.pure, x)

theorem mapC_spec {r : AV → Option (Bool × AV)} {q : AV → Option AV} (h : ∀ x y, r x = some (true, y) → q x = some y) : ∀ {xs ys : List AV}, mapC r xs = some (true, ys) → mapO q xs = some ys
  | [], ys, e => by simp only [mapC, Option.some.injEq, Prod.mk.injEq, true_and] at e; subst e; rfl
  | x :: xs, ys, e => by
    unfold mapC at e
    split at e
    case h_2 => simp at e
    rename_i b y hx
    split at e
    case h_2 => simp at e
    rename_i c zs hz
    simp only [Option.some.injEq, Prod.mk.injEq, Bool.and_eq_true] at e
    obtain ⟨⟨rfl, rfl⟩, rfl⟩ := e
    unfold mapO
    rw [h _ _ hx, mapC_spec h hz]

theorem mapC_mem {r : AV → Option (Bool × AV)} : ∀ {xs ys : List AV}, mapC r xs = some (true, ys) → ∀ x, x ∈ xs → ∃ y, r x = some (true, y)
  | [], ys, e, x, hx => by simp at hx
  | x :: xs, ys, e, z, hz => by
    unfold mapC at e
    split at e
    case h_2 => simp at e
    rename_i b y hx
    split at e
    case h_2 => simp at e
    rename_i c zs hzs
    simp only [Option.some.injEq, Prod.mk.injEq, Bool.and_eq_true] at e
    obtain ⟨⟨rfl, rfl⟩, rfl⟩ := e
    rcases List.mem_cons.1 hz with rfl | hz
    · exact ⟨_, hx⟩
    · exact mapC_mem hzs z hz

theorem mapO_pure {H : List Box} {n : Nat} : ∀ {xs : List AV}, AV.pures xs = true → mapO (resolve H n) xs = some xs
  | [], _ => rfl
  | x :: xs, h => by
    simp only [AV.pures, Bool.and_eq_true] at h
    unfold mapO
    rw [resolve_pure h.1, mapO_pure h.2]

theorem resE_pure {H : List Box} {n : Nat} {x : AV} (h : x.pure = true) : resE (resolve H n) x = some x := by
  cases x <;> first | (simp only [resE]; exact resolve_pure h) | skip
  simp only [AV.pure] at h
  simp only [resE, mapO_pure h]

theorem mapO_resE_pure {H : List Box} {n : Nat} : ∀ {xs : List AV}, AV.pures xs = true → mapO (resE (resolve H n)) xs = some xs
  | [], _ => rfl
  | x :: xs, h => by
    simp only [AV.pures, Bool.and_eq_true] at h
    unfold mapO
    rw [resE_pure h.1, mapO_resE_pure h.2]

theorem mapE_of {H : List Box} {n : Nat} {xs ys : List AV} (h : mapO (resE (resolve H n)) xs = some ys) : mapE (resolve H n) xs = some ys := by
  unfold mapE
  split
  · rename_i hp; rw [mapO_resE_pure hp] at h; exact h
  · exact h

theorem resEC_spec {r : AV → Option (Bool × AV)} {q : AV → Option AV} (h : ∀ x y, r x = some (true, y) → q x = some y) (x y : AV) (e : resEC r x = some (true, y)) : resE q x = some y := by
  cases x <;> first | exact h _ _ e | skip
  simp only [resEC] at e
  split at e
  case h_2 => simp at e
  rename_i b ds hd
  simp only [Option.some.injEq, Prod.mk.injEq] at e
  obtain ⟨rfl, rfl⟩ := e
  simp only [resE, mapC_spec h hd]

theorem resC_spec {P : Program} {pm : Bool} {H : List Box} : ∀ (n : Nat) (x y : AV), resC P pm H n x = some (true, y) → resolve H n x = some y
  | 0, x, y, e => by
    simp only [resC, Option.some.injEq, Prod.mk.injEq] at e
    rw [← e.2]; exact resolve_pure e.1
  | n + 1, x, y, e => by
    have ih := resC_spec (P := P) (pm := pm) (H := H) n
    have keyp : x.pure = true → some (x.pure, x) = some (true, y) → resolve H (n + 1) x = some y := fun hp e => by
      simp only [Option.some.injEq, Prod.mk.injEq] at e
      rw [← e.2]; exact resolve_pure e.1
    unfold resC at e
    split at e
    · rename_i cs
      split at e
      case h_2 => simp at e
      rename_i b ds hd
      simp only [Option.some.injEq, Prod.mk.injEq] at e
      obtain ⟨rfl, rfl⟩ := e
      have hm := mapC_spec ih hd
      by_cases hp : AV.pures cs = true
      · rw [mapO_pure hp] at hm; simp only [Option.some.injEq] at hm; subst hm
        exact resolve_pure (by simpa [AV.pure] using hp)
      · unfold resolve
        rw [if_neg (by simpa [AV.pure] using hp)]
        simp only [hm]
    · rename_i f cs
      split at e
      case h_2 => simp at e
      rename_i b ds hd
      simp only [Option.some.injEq, Prod.mk.injEq] at e
      obtain ⟨rfl, rfl⟩ := e
      have hm := mapC_spec ih hd
      by_cases hp : AV.pures cs = true
      · rw [mapO_pure hp] at hm; simp only [Option.some.injEq] at hm; subst hm
        exact resolve_pure (by simpa [AV.pure] using hp)
      · unfold resolve
        rw [if_neg (by simpa [AV.pure] using hp)]
        simp only [hm]
    · rename_i id ver i j
      split at e
      case h_2 => simp at e
      rename_i bv bx hb
      unfold resolve
      rw [if_neg (by simp [AV.pure])]
      split at e
      · simp only [Option.some.injEq, Prod.mk.injEq, Bool.and_eq_true, decide_eq_true_eq] at e
        obtain ⟨⟨rfl, h1, h2⟩, rfl⟩ := e
        simp only [getV_spec hb, mapE, h1, if_true, if_pos h2]
      · split at e
        case h_2 => simp at e
        rename_i b ys hy
        simp only [Option.some.injEq, Prod.mk.injEq, Bool.and_eq_true, decide_eq_true_eq] at e
        obtain ⟨⟨rfl, rfl, h2⟩, rfl⟩ := e
        simp only [getV_spec hb, mapE_of (mapC_spec (resEC_spec ih) hy), if_pos h2]
    · rename_i id ver off len
      split at e
      case h_2 => simp at e
      rename_i bv bx hb
      unfold resolve
      rw [if_neg (by simp [AV.pure])]
      split at e
      · simp only [Option.some.injEq, Prod.mk.injEq, Bool.and_eq_true, decide_eq_true_eq] at e
        obtain ⟨⟨rfl, h1, h2⟩, rfl⟩ := e
        simp only [getV_spec hb, mapE, h1, if_true, if_pos h2]
      · split at e
        case h_2 => simp at e
        rename_i b ys hy
        simp only [Option.some.injEq, Prod.mk.injEq, Bool.and_eq_true, decide_eq_true_eq] at e
        obtain ⟨⟨rfl, rfl, h2⟩, rfl⟩ := e
        simp only [getV_spec hb, mapE_of (mapC_spec (resEC_spec ih) hy), if_pos h2]
    · simp only [Option.some.injEq, Prod.mk.injEq] at e
      rw [← e.2]; exact resolve_pure e.1

def reachC (P : Program) (pm : Bool) (H : List Box) : Nat → AV → List Nat
  | 0, _ => []
  | n + 1, x => match x with
    | .agg cs => cs.flatMap (reachC P pm H n)
    | .func _ cs => cs.flatMap (reachC P pm H n)
    | .own id _ _ _ => id :: (match H[id]? with | some bx => if (pm || flatTy P bx.ty) = true then [] else bx.xs.flatMap fun (e : AV) => e.cells.flatMap (reachC P pm H n) | none => [])
    | .osl id _ off len => id :: (match H[id]? with | some bx => if (pm || flatTy P bx.ty) = true then [] else ((bx.xs.drop off).take len).flatMap fun (e : AV) => e.cells.flatMap (reachC P pm H n) | none => [])
    | _ => []

theorem flatMap_congr {α β : Type} {f g : α → List β} : ∀ {l : List α}, (∀ x, x ∈ l → f x = g x) → l.flatMap f = l.flatMap g
  | [], _ => rfl
  | x :: xs, h => by
    rw [List.flatMap_cons, List.flatMap_cons, h x (by simp), flatMap_congr fun y hy => h y (by simp [hy])]

theorem flatMap_nil' {α β : Type} {f : α → List β} : ∀ {l : List α}, (∀ x, x ∈ l → f x = []) → l.flatMap f = []
  | [], _ => rfl
  | x :: xs, h => by
    rw [List.flatMap_cons, h x (by simp), flatMap_nil' fun y hy => h y (by simp [hy])]; rfl

theorem pures_mem {xs : List AV} (h : AV.pures xs = true) {x : AV} (hx : x ∈ xs) : x.pure = true := by
  rw [pures_eq, List.all_eq_true] at h; exact h x hx

theorem getV_get {H : List Box} {id ver : Nat} {b : Bool} {bx : Box} (h : getV H id ver = some (b, bx)) : H[id]? = some bx := by
  unfold getV at h
  split at h
  · rename_i bx' hb; simp only [Option.some.injEq, Prod.mk.injEq] at h; rw [hb, h.2]
  · simp at h

theorem resEC_cells {r : AV → Option (Bool × AV)} {e y : AV} (h : resEC r e = some (true, y)) : ∀ c, c ∈ e.cells → ∃ d, r c = some (true, d) := by
  intro c hc
  cases e <;> first | (simp only [AV.cells, List.mem_singleton] at hc; subst hc; exact ⟨_, h⟩) | skip
  simp only [resEC] at h
  split at h
  case h_2 => simp at h
  rename_i b ds hd
  simp only [Option.some.injEq, Prod.mk.injEq] at h
  obtain ⟨rfl, _⟩ := h
  exact mapC_mem hd c hc

theorem reachC_spec {P : Program} {pm : Bool} {H : List Box} : ∀ (n : Nat) (x y : AV), resC P pm H n x = some (true, y) → reach H n x = reachC P pm H n x
  | 0, x, y, e => by simp [reach, reachC]
  | n + 1, x, y, e => by
    have ih := reachC_spec (P := P) (pm := pm) (H := H) n
    unfold resC at e
    split at e
    · rename_i cs
      split at e
      case h_2 => simp at e
      rename_i b ds hd
      simp only [Option.some.injEq, Prod.mk.injEq] at e
      obtain ⟨rfl, rfl⟩ := e
      have h1 : cs.flatMap (reach H n) = cs.flatMap (reachC P pm H n) := flatMap_congr fun c hc => by obtain ⟨d, hd'⟩ := mapC_mem hd c hc; exact ih c d hd'
      unfold reach
      simp only [reachC]
      split
      · rename_i hp
        rw [← h1, flatMap_nil' fun c hc => reach_pure (pures_mem (by simpa [AV.pure] using hp) hc)]
      · exact h1
    · rename_i f cs
      split at e
      case h_2 => simp at e
      rename_i b ds hd
      simp only [Option.some.injEq, Prod.mk.injEq] at e
      obtain ⟨rfl, rfl⟩ := e
      have h1 : cs.flatMap (reach H n) = cs.flatMap (reachC P pm H n) := flatMap_congr fun c hc => by obtain ⟨d, hd'⟩ := mapC_mem hd c hc; exact ih c d hd'
      unfold reach
      simp only [reachC]
      split
      · rename_i hp
        rw [← h1, flatMap_nil' fun c hc => reach_pure (pures_mem (by simpa [AV.pure] using hp) hc)]
      · exact h1
    · rename_i id ver i j
      split at e
      case h_2 => simp at e
      rename_i bv bx hb
      unfold reach
      rw [if_neg (by simp [AV.pure])]
      simp only [reachC, getV_get hb]
      congr 1
      split at e
      · rename_i hfl
        simp only [Option.some.injEq, Prod.mk.injEq, Bool.and_eq_true] at e
        rw [if_pos e.1.2.1, if_pos hfl]
      · rename_i hfl
        split at e
        case h_2 => simp at e
        rename_i b ys hy
        simp only [Option.some.injEq, Prod.mk.injEq, Bool.and_eq_true] at e
        obtain ⟨⟨rfl, rfl, _⟩, _⟩ := e
        rw [if_neg hfl]
        have h1 : (bx.xs.flatMap fun (e : AV) => e.cells.flatMap (reach H n)) = bx.xs.flatMap fun (e : AV) => e.cells.flatMap (reachC P pm H n) :=
          flatMap_congr fun e he => flatMap_congr fun c hc => by
            obtain ⟨y, hy'⟩ := mapC_mem hy e he
            obtain ⟨d, hd⟩ := resEC_cells hy' c hc
            exact ih c d hd
        split
        · rename_i hp
          rw [← h1, flatMap_nil' fun e he => flatMap_nil' fun c hc => reach_pure (pures_mem (pure_cells (pures_mem hp he)) hc)]
        · exact h1
    · rename_i id ver off len
      split at e
      case h_2 => simp at e
      rename_i bv bx hb
      unfold reach
      rw [if_neg (by simp [AV.pure])]
      simp only [reachC, getV_get hb]
      congr 1
      split at e
      · rename_i hfl
        simp only [Option.some.injEq, Prod.mk.injEq, Bool.and_eq_true] at e
        rw [if_pos e.1.2.1, if_pos hfl]
      · rename_i hfl
        split at e
        case h_2 => simp at e
        rename_i b ys hy
        simp only [Option.some.injEq, Prod.mk.injEq, Bool.and_eq_true] at e
        obtain ⟨⟨rfl, rfl, _⟩, _⟩ := e
        rw [if_neg hfl]
        have h1 : (((bx.xs.drop off).take len).flatMap fun (e : AV) => e.cells.flatMap (reach H n)) = ((bx.xs.drop off).take len).flatMap fun (e : AV) => e.cells.flatMap (reachC P pm H n) :=
          flatMap_congr fun e he => flatMap_congr fun c hc => by
            obtain ⟨y, hy'⟩ := mapC_mem hy e he
            obtain ⟨d, hd⟩ := resEC_cells hy' c hc
            exact ih c d hd
        split
        · rename_i hp
          rw [← h1, flatMap_nil' fun e he => flatMap_nil' fun c hc => reach_pure (pures_mem (pure_cells (pures_mem hp he)) hc)]
        · exact h1
    · simp only [Option.some.injEq, Prod.mk.injEq] at e
      rw [reach_pure e.1]
      rename_i h1 h2 h3 h4
      cases x <;> first | rfl | exact (h1 _ rfl).elim | exact (h2 _ _ rfl).elim | exact (h3 _ _ _ _ rfl).elim | exact (h4 _ _ _ _ rfl).elim

theorem reachC_all {P : Program} {pm : Bool} {H : List Box} {n : Nat} {xs ys : List AV} (h : mapC (resC P pm H n) xs = some (true, ys)) : xs.flatMap (reach H n) = xs.flatMap (reachC P pm H n) :=
  flatMap_congr fun c hc => by obtain ⟨d, hd⟩ := mapC_mem h c hc; exact reachC_spec n c d hd

def afterC (P : Program) (pm : Bool) (H : List Box) (args : List AV) (r : AV) : List Box := if r.flat = true then H else freeze H (args.flatMap (reachC P pm H rfuel))

theorem afterC_eq {P : Program} {pm : Bool} {H : List Box} {xs ys : List AV} (h : mapC (resC P pm H rfuel) xs = some (true, ys)) (r : AV) : afterC P pm H xs r = afterCall H xs r := by
  unfold afterC afterCall
  rw [reachC_all h]

/-! ### The executor -/

/-- How a loop ends: by what holds, at one exit or another. -/
inductive LR where
  | leaf (e : Exit) (out : List AV) (H : List Box)
  | node (t : Bool) (a b : LR)

def LR.eval : LR → Exit × List AV × List Box
  | .leaf e o H => (e, o, H)
  | .node t a b => match t with
    | true => a.eval
    | false => b.eval

def LR.run {T : Type} (f : Exit → List AV → List Box → T) : LR → T
  | .leaf e o H => f e o H
  | .node t a b => br t (a.run f) (b.run f)

theorem LR.run_good {T : Type} {good : T → Prop} {f : Exit → List AV → List Box → T} : ∀ {r : LR}, good (r.run f) → good (f r.eval.1 r.eval.2.1 r.eval.2.2)
  | .leaf e o H, h => h
  | .node true a b, h => LR.run_good (r := a) h
  | .node false a b, h => LR.run_good (r := b) h

structure Env where
  orc : FuncId → List AV → Option (Bool × AV)
  live : Nat → List Nat
  liveO : Nat → List Nat
  lo : Nat → List AV → List Box → Option (Bool × LR)
  nt : Nat
  fuel : Nat
  pm : Bool

/-- Temporaries of which those named alone are known. -/
def mkTs (n : Nat) : List (Nat × AV) → List AV
  | [] => List.replicate n .top
  | (t, v) :: l => (mkTs n l).set t v

def liveOf (live : List Nat) (ts : List AV) : List AV := live.map fun t => ts.getD t .top

/-- The number of a piece of code: its first region's. -/
def codeId : Code → Nat
  | .region id _ _ => id
  | .seq a _ => codeId a
  | .block _ c => codeId c
  | .loop c => codeId c
  | .cond _ a _ => codeId a
  | _ => 0

def loopsOf : Code → List Code
  | .seq a b => loopsOf a ++ loopsOf b
  | .block _ c => loopsOf c
  | .loop c => c :: loopsOf c
  | .cond _ a b => loopsOf a ++ loopsOf b
  | _ => []

def OrcOk (P : Program) (Inv : World → Prop) (E : Env) : Prop := ∀ g args r, E.orc g args = some (true, r) → Good P Inv g args r

/-- What is said of one loop. -/
def LoopOk (P : Program) (Inv : World → Prop) (nt : Nat) (live liveO : List Nat) (l : Code) (lo : List AV → List Box → Option (Bool × LR)) : Prop :=
  ∀ vals H r, lo vals H = some (true, r) → Does P Inv (.loop l) (fun e1 s1 => e1 = r.eval.1 ∧ s1 = ⟨mkTs nt (liveO.zip r.eval.2.1), r.eval.2.2⟩) ⟨mkTs nt (live.zip vals), H⟩

def LoOk (P : Program) (Inv : World → Prop) (E : Env) (c : Code) : Prop := ∀ l, l ∈ loopsOf c → LoopOk P Inv E.nt (E.live (codeId l)) (E.liveO (codeId l)) l (E.lo (codeId l))

theorem mkTs_length (n : Nat) : ∀ l : List (Nat × AV), (mkTs n l).length = n
  | [] => by simp [mkTs]
  | (t, v) :: l => by simp [mkTs, mkTs_length n l]

theorem forgetT_get (live : List Nat) : ∀ (xs : List AV) (i t : Nat), (forgetT live i xs)[t]? = (xs[t]?).map fun x => if live.contains (i + t) = true then x else .top
  | [], i, t => by simp [forgetT]
  | x :: xs, i, t => by
    cases t with
    | zero => simp [forgetT]
    | succ t => simp only [forgetT, List.getElem?_cons_succ]; rw [forgetT_get live xs (i + 1) t]; congr 2; rw [show i + 1 + t = i + (t + 1) by omega]

theorem mkTs_get (n : Nat) (ts : List AV) (hn : ts.length = n) (t : Nat) (ht : t < n) : ∀ live : List Nat, (mkTs n (live.zip (liveOf live ts)))[t]? = some (if live.contains t = true then ts.getD t .top else .top)
  | [] => by simp [mkTs, ht]
  | a :: live => by
    have ih := mkTs_get n ts hn t ht live
    simp only [liveOf, List.map_cons, List.zip_cons_cons, mkTs]
    simp only [liveOf] at ih
    by_cases ha : a = t
    · subst ha
      rw [List.getElem?_set_self (by rw [mkTs_length]; exact ht)]
      simp
    · rw [List.getElem?_set_ne ha, ih]
      have : (a :: live).contains t = live.contains t := by simp [List.contains_cons, Ne.symm ha]
      rw [this]

theorem forgetT_mk {live : List Nat} {ts : List AV} {n : Nat} (hn : ts.length = n) : forgetT live 0 ts = mkTs n (live.zip (liveOf live ts)) := by
  apply List.ext_getElem?
  intro t
  rw [forgetT_get]
  by_cases ht : t < n
  · rw [mkTs_get n ts hn t ht live]
    have : t < ts.length := by omega
    simp [List.getElem?_eq_getElem this, List.getD_eq_getElem?_getD]
  · rw [List.getElem?_eq_none (by omega), List.getElem?_eq_none (by rw [mkTs_length]; omega)]
    rfl

/-- What follows from less follows from more. -/
theorem does_weak {P : Program} {Inv : World → Prop} {c : Code} {s s' : St} {Q : Exit → St → Prop} (hw : Weak s s') (h : Does P Inv c Q s') : Does P Inv c Q s :=
  fun w0 A0 w A M a Qc hI hs hQ => by
    obtain ⟨M'', hs''⟩ := hs.weak hw
    exact h w0 A0 w A M'' a Qc hI hs'' hQ

section exec
variable {T : Type} (P : Program) (E : Env) (bad : T)

def xplain (imp : Bool) (o : Oper) (s : St) (K : St → T) : T :=
  if isImp o.op = true then
    (if imp = true then match iopC P s.eval s.heap o.op with
      | some (b, x, H) => br b (force x fun x' => putK s.tmps o.dst x' fun ts => forceH H fun H' => K ⟨ts, H'⟩) bad
      | none => bad
    else bad)
  else match fopC P s.eval s.heap s.heap.length o.op with
    | some (b, x, nb) => br b (force x fun x' => putK s.tmps o.dst x' fun ts => forceH (s.heap ++ nb.toList) fun H' => K ⟨ts, H'⟩) bad
    | none => bad

def xcall (o : Oper) (c : Call) (s : St) (K : St → T) : T :=
  match callTarget s c with
  | some (g, args) => match mapC (resC P E.pm s.heap rfuel) args with
    | some (b, args') => br b (forces args' fun as => match E.orc g as with
      | some (b2, r) => br b2 (force r fun r' => putK s.tmps o.dst r' fun ts => forceH (afterC P E.pm s.heap args r') fun H' => K ⟨ts, H'⟩) bad
      | none => bad) bad
    | none => bad
  | none => bad

def xop (imp : Bool) (o : Oper) (s : St) (K : St → T) : T :=
  match o.op with
  | .pick c a b => match s.eval c with
    | .bool t => br t (force (s.eval a) fun x => putK s.tmps o.dst x fun ts => K ⟨ts, s.heap⟩) (force (s.eval b) fun x => putK s.tmps o.dst x fun ts => K ⟨ts, s.heap⟩)
    | _ => bad
  | .call c => match c.callee with
    | .value _ => xcall P E bad o c s K
    | _ => xplain P bad imp o s K
  | _ => xplain P bad imp o s K

def xguard (ops : Array Oper) (o : Oper) (s : St) (K : Bool → St → T) : T :=
  match o.guard with
  | none => K true s
  | some (j, want) => match dstOf ops j with
    | none => K false s
    | some d => match s.tmps[d]? with
      | none => K false s
      | some (.bool t) => br t (setK s.tmps d (.bool true) fun ts => K (true == want) ⟨ts, s.heap⟩) (setK s.tmps d (.bool false) fun ts => K (false == want) ⟨ts, s.heap⟩)
      | some (.tuple _) => K false s
      | _ => bad

def xOps (imp : Bool) (ops : Array Oper) : List Oper → St → (St → T) → T
  | [], s, K => K s
  | o :: rest, s, K => xguard bad ops o s fun b s1 => match b with
    | true => xop P E bad imp o s1 fun s' => xOps imp ops rest s' K
    | false => putK s1.tmps o.dst (.tuple []) fun ts => xOps imp ops rest ⟨ts, s1.heap⟩ K

def freeN : List Oper → Nat
  | [] => 0
  | o :: l => if isImp o.op = true then 0 else freeN l + 1

def xReg (ops : Array Oper) (draw : Bool) (s : St) (K : St → T) : T :=
  if draw = true then
    if (decide (freeN ops.toList ≤ ops.size) && regOk ops (freeN ops.toList)) = true then
      xOps P E bad false ops (ops.toList.take (freeN ops.toList)) s fun s1 => xOps P E bad true ops (ops.toList.drop (freeN ops.toList)) s1 K
    else bad
  else xOps P E bad true ops ops.toList s K

def xloop (R : St → (Exit → St → T) → T) : Nat → St → (Exit → St → T) → T
  | 0, _, _ => bad
  | n + 1, s, K => R s fun e s' => match e with
    | .normal => xloop R n s' K
    | e => K e s'

def X : Code → St → (Exit → St → T) → T
  | .skip, s, K => K .normal s
  | .region _ ops draw, s, K => xReg P E bad ops draw s (K .normal)
  | .seq a b, s, K => X a s fun e s' => match e with
    | .normal => X b s' K
    | e => K e s'
  | .cond c a b, s, K => match s.eval c with
    | .bool t => br t (X a s K) (X b s K)
    | _ => bad
  | .block id c, s, K => X c s fun e s' => match e with
    | .exit id' => if id' = id then K .normal s' else K (.exit id') s'
    | e => K e s'
  | .loop c, s, K => match E.lo (codeId c) (liveOf (E.live (codeId c)) s.tmps) s.heap with
    | some (b, r) => br (Nat.beq s.tmps.length E.nt && keeps (E.live (codeId c)) s.heap.length s) (br b (r.run fun e out H' => forces (mkTs E.nt ((E.liveO (codeId c)).zip out)) fun ts => forceH H' fun H'' => K e ⟨ts, H''⟩) bad) bad
    | none => xloop bad (fun s K => X c s K) E.fuel s K
  | .exit id, s, K => K (.exit id) s
  | .ret, s, K => K .ret s
  | _, _, _ => bad
end exec

section sound
variable {T : Type} {P : Program} {Inv : World → Prop} {E : Env} {bad : T} {good : T → Prop}

theorem br_good (hbad : ¬ good bad) {t : Bool} {a : T} (h : good (br t a bad)) : t = true ∧ good a := by
  cases t with
  | true => exact ⟨rfl, h⟩
  | false => exact (hbad h).elim

theorem xplain_sound (hbad : ¬ good bad) {imp : Bool} {o : Oper} {s : St} {K : St → T} (h : good (xplain P bad imp o s K)) :
    if isImp o.op = true then imp = true ∧ istep P o s (fun s' => good (K s')) else fstep P o s (fun s' => good (K s')) := by
  unfold xplain at h
  split
  · rename_i hi
    rw [if_pos hi] at h
    split at h
    case isFalse => exact (hbad h).elim
    rename_i him
    refine ⟨him, ?_⟩
    split at h
    case h_2 => exact (hbad h).elim
    rename_i b x H hx
    obtain ⟨rfl, h⟩ := br_good hbad h
    rw [force_eq, putK_eq, forceH_eq] at h
    unfold istep
    rw [iopC_spec hx]
    exact h
  · rename_i hi
    rw [if_neg hi] at h
    split at h
    case h_2 => exact (hbad h).elim
    rename_i b x nb hx
    obtain ⟨rfl, h⟩ := br_good hbad h
    rw [force_eq, putK_eq, forceH_eq] at h
    unfold fstep
    rw [fopC_spec hx]
    exact h

theorem xcall_sound (hbad : ¬ good bad) (hor : OrcOk P Inv E) {o : Oper} {c : Call} {s : St} {K : St → T} (h : good (xcall P E bad o c s K)) : CallF P Inv s c o.dst (fun s' => good (K s')) := by
  unfold xcall at h
  split at h
  case h_2 => exact (hbad h).elim
  rename_i g args hct
  split at h
  case h_2 => exact (hbad h).elim
  rename_i b args' hm
  have ⟨e1, h1⟩ := br_good hbad h
  clear h
  subst e1
  rw [forces_eq] at h1
  split at h1
  case h_2 => exact (hbad h1).elim
  rename_i b2 r hr
  have ⟨e2, h⟩ := br_good hbad h1
  clear h1
  subst e2
  rw [force_eq, putK_eq, forceH_eq, afterC_eq hm] at h
  exact callF_good hct (mapC_spec (resC_spec rfuel) hm) (hor _ _ _ hr) h

theorem callF_K {s : St} {c : Call} {d : Option Tmp} {K : St → Prop} (h : CallF P Inv s c d K) : CallK P Inv s c d K := by
  obtain ⟨s', h1, h2⟩ := h
  exact ⟨s', .inl h1, h2⟩

theorem isImp_call {o : Oper} {c : Call} (ho : o.op = .call c) {f : Operand} (hf : c.callee = .value f) : isImp o.op = false := by
  simp [isImp, ho, hf]

theorem xop_A (hbad : ¬ good bad) (hor : OrcOk P Inv E) {o : Oper} {s : St} {K : St → T} (h : good (xop P E bad true o s K)) : stepA P Inv o s (fun s' => good (K s')) := by
  have plain : good (xplain P bad true o s K) → (if isImp o.op = true then istep P o s (fun s' => good (K s')) else fstep P o s (fun s' => good (K s'))) := fun h => by
    have := xplain_sound hbad h
    split at this <;> rename_i hi
    · rw [if_pos hi]; exact this.2
    · rw [if_neg hi]; exact this
  unfold xop at h
  unfold stepA
  split at h
  · rename_i c a b ho
    split at h
    case h_2 => exact (hbad h).elim
    rename_i t ht
    simp only [ho, ht]
    rw [force_eq, force_eq, putK_eq, putK_eq] at h
    cases t with
    | true => exact both_true (by simpa only [br] using h)
    | false => exact both_false (by simpa only [br] using h)
  · rename_i c ho
    split at h
    · rename_i f hf
      simp only [ho, hf]
      exact callF_K (xcall_sound hbad hor h)
    · rename_i hne
      have := plain h
      simp only [ho] at this ⊢
      cases hc : c.callee <;> first | exact (hne _ hc).elim | exact this
  · rename_i h1 h2
    have := plain h
    cases ho : o.op <;> first | exact (h1 _ _ _ ho).elim | exact (h2 _ ho).elim | exact this | (rw [ho] at this; exact this)

theorem xop_F (hbad : ¬ good bad) (hor : OrcOk P Inv E) {o : Oper} {s : St} {K : St → T} (h : good (xop P E bad false o s K)) : stepF P Inv o s (fun s' => good (K s')) := by
  have plain : good (xplain P bad false o s K) → fstep P o s (fun s' => good (K s')) := fun h => by
    have := xplain_sound hbad h
    split at this <;> rename_i hi
    · exact absurd this.1 (by simp)
    · exact this
  unfold xop at h
  unfold stepF
  split at h
  · rename_i c a b ho
    split at h
    case h_2 => exact (hbad h).elim
    rename_i t ht
    simp only [ho, ht]
    rw [force_eq, force_eq, putK_eq, putK_eq] at h
    cases t with
    | true => exact both_true (by simpa only [br] using h)
    | false => exact both_false (by simpa only [br] using h)
  · rename_i c ho
    split at h
    · rename_i f hf
      simp only [ho, hf]
      exact xcall_sound hbad hor h
    · rename_i hne
      have := plain h
      simp only [ho] at this ⊢
      cases hc : c.callee <;> first | exact (hne _ hc).elim | exact this
  · rename_i h1 h2
    have := plain h
    cases ho : o.op <;> first | exact (h1 _ _ _ ho).elim | exact (h2 _ ho).elim | exact this | (rw [ho] at this; exact this)

theorem xOps_sound (hbad : ¬ good bad) {imp : Bool} {Step : St → Oper → St → Prop} (hstep : ∀ o s (K : St → T), good (xop P E bad imp o s K) → ∃ s', Step s o s' ∧ good (K s')) {ops : Array Oper} :
    ∀ (l : List Oper) (s : St) (K : St → T), good (xOps P E bad imp ops l s K) → ∃ s', Path Step ops l s s' ∧ good (K s')
  | [], s, K, h => ⟨s, .nil s, h⟩
  | o :: rest, s, K, h => by
    have run : ∀ s : St, awanted ops s.tmps o = some true → good (xop P E bad imp o s fun s' => xOps P E bad imp ops rest s' K) → ∃ s', Path Step ops (o :: rest) s s' ∧ good (K s') := fun s hg h => by
      obtain ⟨s1, h1, h2⟩ := hstep _ _ _ h
      obtain ⟨s2, h3, h4⟩ := xOps_sound hbad hstep rest s1 K h2
      exact ⟨s2, .run hg h1 h3, h4⟩
    have skip : ∀ s : St, awanted ops s.tmps o = some false → good (putK s.tmps o.dst (.tuple []) fun ts => xOps P E bad imp ops rest ⟨ts, s.heap⟩ K) → ∃ s', Path Step ops (o :: rest) s s' ∧ good (K s') := fun s hg h => by
      rw [putK_eq] at h
      obtain ⟨s2, h3, h4⟩ := xOps_sound hbad hstep rest _ K h
      exact ⟨s2, .skip hg h3, h4⟩
    unfold xOps xguard at h
    split at h
    · rename_i hg
      exact run s (by simp [awanted, hg]) h
    · rename_i j want hg
      split at h
      · rename_i hd
        refine skip s ?_ h
        have : (ops[j]?).bind (·.dst) = none := hd
        simp [awanted, hg, ayield, this]
      · rename_i d hd
        have hd' : (ops[j]?).bind (·.dst) = some d := hd
        split at h
        · rename_i ht
          refine skip s ?_ h
          simp [awanted, hg, ayield, hd', ht]
        · rename_i t ht
          have haw : awanted ops s.tmps o = some (t == want) := by simp [awanted, hg, ayield, hd', ht]
          cases t with
          | true =>
            simp only [br] at h
            rw [setK_eq, set_same ht] at h
            cases want with
            | true => exact run s haw h
            | false => exact skip s haw h
          | false =>
            simp only [br] at h
            rw [setK_eq, set_same ht] at h
            cases want with
            | true => exact skip s haw h
            | false => exact run s haw h
        · rename_i vs ht
          refine skip s ?_ h
          simp [awanted, hg, ayield, hd', ht]
        · exact (hbad h).elim

theorem xReg_sound (hmx : P.follows .mixedOrders = true) (hIo : InvOk Inv) (hbad : ¬ good bad) (hor : OrcOk P Inv E) {id : Nat} {ops : Array Oper} {draw : Bool} {s : St} {K : Exit → St → T} (h : good (xReg P E bad ops draw s (K .normal))) : Does P Inv (.region id ops draw) (fun e s' => good (K e s')) s := by
  have hA : ∀ o s (K : St → T), good (xop P E bad true o s K) → ∃ s', OpA P Inv s o s' ∧ good (K s') := fun o s K h => stepA_sound (xop_A hbad hor h)
  have hF : ∀ o s (K : St → T), good (xop P E bad false o s K) → ∃ s', OpF P Inv s o s' ∧ good (K s') := fun o s K h => stepF_sound (xop_F hbad hor h)
  unfold xReg at h
  cases draw with
  | false =>
    simp only [Bool.false_eq_true, if_false] at h
    obtain ⟨s', h1, h2⟩ := xOps_sound hbad hA _ _ _ h
    exact sem_region hIo h1 h2
  | true =>
    simp only [if_true] at h
    split at h
    case isFalse => exact (hbad h).elim
    rename_i hc
    simp only [Bool.and_eq_true, decide_eq_true_eq] at hc
    obtain ⟨s1, h1, h⟩ := xOps_sound hbad hF _ _ _ h
    obtain ⟨s2, h2, h⟩ := xOps_sound hbad hA _ _ _ h
    exact sem_draw hmx hIo _ hc.2 hc.1 h1 h2 h

/-- A loop, a round at a time. -/
theorem xloop_sound (hbad : ¬ good bad) {c : Code} {R : St → (Exit → St → T) → T} (hR : ∀ s (K : Exit → St → T), good (R s K) → Does P Inv c (fun e s' => good (K e s')) s) {n : Nat} {s : St} {K : Exit → St → T} (h : good (xloop bad R n s K)) : Does P Inv (.loop c) (fun e s' => good (K e s')) s :=
  sem_loopN (fun n s => good (xloop bad R n s K)) (.inl rfl) h fun n s hs => by
    cases n with
    | zero => exact (hbad hs).elim
    | succ n =>
      refine sem_mono (hR s _ hs) fun e s' h => ?_
      cases e with
      | normal => exact ⟨n, s', Nat.lt_succ_self n, .inl rfl, h⟩
      | _ => exact h

theorem X_sound (hmx : P.follows .mixedOrders = true) (hIo : InvOk Inv) (hbad : ¬ good bad) (hor : OrcOk P Inv E) : ∀ (c : Code) (s : St) (K : Exit → St → T), LoOk P Inv E c → good (X P E bad c s K) → Does P Inv c (fun e s' => good (K e s')) s
  | .skip, s, K, _, h => sem_skip h
  | .region id ops draw, s, K, _, h => xReg_sound hmx hIo hbad hor h
  | .seq a b, s, K, hl, h => sem_seq (sem_mono (X_sound hmx hIo hbad hor a s _ (fun l hm => hl l (by simp [loopsOf, hm])) h) fun e s' hq => by
    cases e with
    | normal => exact X_sound hmx hIo hbad hor b s' K (fun l hm => hl l (by simp [loopsOf, hm])) hq
    | _ => exact hq)
  | .cond c a b, s, K, hl, h => by
    unfold X at h
    split at h
    case h_2 => exact (hbad h).elim
    rename_i t ht
    refine sem_cond ht (fun e => ?_) (fun e => ?_)
    · subst e; exact X_sound hmx hIo hbad hor a s K (fun l hm => hl l (by simp [loopsOf, hm])) h
    · subst e; exact X_sound hmx hIo hbad hor b s K (fun l hm => hl l (by simp [loopsOf, hm])) h
  | .block id c, s, K, hl, h => sem_block (sem_mono (X_sound hmx hIo hbad hor c s _ (fun l hm => hl l (by simpa [loopsOf] using hm)) h) fun e s' hq => by
    cases e with
    | exit id' =>
      simp only [blockQ]
      split
      · rename_i hid; simp only [hid, if_true] at hq; exact hq
      · rename_i hid; simp only [hid, if_false] at hq; exact hq
    | _ => exact hq)
  | .loop c, s, K, hl, h => by
    unfold X at h
    split at h
    · rename_i b r hlo
      have ⟨h0, h1⟩ := br_good hbad h
      clear h
      have ⟨hb, h⟩ := br_good hbad h1
      clear h1
      subst hb
      have h := LR.run_good h
      rw [forces_eq, forceH_eq] at h
      simp only [Bool.and_eq_true] at h0
      have hlen := Nat.eq_of_beq_eq_true h0.1
      have := hl c (by simp [loopsOf]) _ _ _ hlo
      rw [← forgetT_mk (live := E.live (codeId c)) hlen] at this
      refine does_weak (s' := ⟨forgetT (E.live (codeId c)) 0 s.tmps, s.heap⟩) (.inr ⟨_, _, h0.2, by simp [forget]⟩) (sem_mono this fun e1 s1 ⟨h1, h2⟩ => by rw [h1, h2]; exact h)
    · exact xloop_sound hbad (fun s K h => X_sound hmx hIo hbad hor c s K (fun l hm => hl l (by simp [loopsOf, hm])) h) h
  | .exit id, s, K, _, h => sem_exit h
  | .ret, s, K, _, h => sem_ret h
  | .rangeFunc .., s, K, _, h => (hbad (by simpa [X] using h)).elim
  | .scope _, s, K, _, h => (hbad (by simpa [X] using h)).elim
  | .label _, s, K, _, h => (hbad (by simpa [X] using h)).elim
  | .goto _, s, K, _, h => (hbad (by simpa [X] using h)).elim
  | .refuse _, s, K, _, h => (hbad (by simpa [X] using h)).elim
end sound

/-! ### Whole functions -/

def resValC (P : Program) (s : St) : ResultVar → Option (Bool × AV)
  | .tmp t => some (true, s.tmps.getD t .top)
  | .cell a t => match tinfo P t with
    | some ti => loadAtC s.heap ti (s.tmps.getD a .top)
    | none => none

def resAllC (P : Program) (pm : Bool) (s : St) : List ResultVar → Option (Bool × List AV)
  | [] => some (true, [])
  | r :: rs => match resValC P s r with
    | some (b, x) => match resC P pm s.heap rfuel x with
      | some (b', y) => match resAllC P pm s rs with
        | some (b'', ys) => some (b && (b' && b''), y :: ys)
        | none => none
      | none => none
    | none => none

theorem resAllC_spec {P : Program} {pm : Bool} {s : St} : ∀ {rs : List ResultVar} {ys : List AV}, resAllC P pm s rs = some (true, ys) → resAll P s rs = some ys
  | [], ys, h => by simp only [resAllC, Option.some.injEq, Prod.mk.injEq, true_and] at h; subst h; rfl
  | r :: rs, ys, h => by
    unfold resAllC at h
    split at h
    case h_2 => simp at h
    rename_i b x hx
    split at h
    case h_2 => simp at h
    rename_i b' y hy
    split at h
    case h_2 => simp at h
    rename_i b'' zs hz
    simp only [Option.some.injEq, Prod.mk.injEq, Bool.and_eq_true] at h
    obtain ⟨⟨rfl, rfl, rfl⟩, rfl⟩ := h
    have hv : resVal P s r = some x := by
      cases r with
      | tmp t => simpa [resValC, resVal] using hx
      | cell a t =>
        simp only [resValC] at hx
        simp only [resVal]
        split at hx
        case h_2 => simp at hx
        rename_i ti hti
        simp only [hti]
        exact loadAtC_spec hx
    unfold resAll
    simp only [hv, resAllC_spec hz, resC_spec _ _ _ hy]

def finK (P : Program) (pm : Bool) (rs : List ResultVar) (s : St) : Option AV :=
  match resAllC P pm s rs with
  | some (b, xs) => br b (forces xs fun ys => some (oneOrTuple ys)) none
  | none => none

def endK (P : Program) (pm : Bool) (rs : List ResultVar) : Exit → St → Option AV
  | .ret, s => finK P pm rs s
  | .normal, s => finK P pm rs s
  | _, _ => none

/-- What a function's body gives, called with 'args'. -/
def XF (P : Program) (E : Env) (fn : Func) (c : Code) (args : List AV) : Option AV :=
  forces (args ++ List.replicate (fn.ntmps - args.length) (.tuple [])) fun ts => X P E none c ⟨ts, []⟩ (endK P E.pm fn.results.toList)

/-- A CONTRACT BY THE EXECUTOR. -/
theorem good_of_XF {P : Program} {Inv : World → Prop} {E : Env} (hmx : P.follows .mixedOrders = true) (hIo : InvOk Inv) (hor : OrcOk P Inv E) {f : FuncId} {fn : Func} {c : Code} {args : List AV} {r : AV} (hf : P.funcs[f]? = some fn) (hb : fn.body = some c) (hname : (fn.name == "runtime.NumGoroutine") = false)
    (hl : LoOk P Inv E c) (h : XF P E fn c args = some r) : Good P Inv f args r := by
  refine good_of hIo hf hb hname ?_
  unfold XF at h
  rw [forces_eq] at h
  refine sem_mono (X_sound (good := fun t => t = some r) hmx hIo (by simp) hor c _ _ hl h) fun e s hq => ?_
  have fin : ∀ s, finK P E.pm fn.results.toList s = some r → resultOf P fn.results.toList s = some r := fun s h => by
    unfold finK at h
    split at h
    case h_2 => simp at h
    rename_i b xs hx
    obtain ⟨rfl, h⟩ := br_good (good := fun t => t = some r) (by simp) h
    rw [forces_eq] at h
    unfold resultOf
    rw [resAllC_spec hx]
    exact h
  cases e with
  | ret => exact ⟨.inl rfl, fin s hq⟩
  | normal => exact ⟨.inr rfl, fin s hq⟩
  | _ => simp [endK] at hq

/-- What follows a loop may know less than the loop leaves. -/
theorem sem_weak {P : Program} {Inv : World → Prop} {c : Code} {s : St} {Q : Exit → St → Prop} (h : Does P Inv c (fun e s1 => ∃ s', Weak s1 s' ∧ Q e s') s) : Does P Inv c Q s :=
  fun w0 A0 w A M a Qc hI hs hQ => h w0 A0 w A M a Qc hI hs fun e s1 a' w' ⟨s', hw, hq⟩ ⟨A', M', hs'⟩ => by
    obtain ⟨M'', hs''⟩ := hs'.weak hw
    exact hQ e s' a' w' hq ⟨A', M'', hs''⟩


/-! ### Loops by their rounds -/

/-- One round, with what is to be forgotten forgotten. -/
def XR (P : Program) (E : Env) (live liveO : List Nat) (k : Nat) (c : Code) (s : St) : Option (Exit × St) :=
  forces s.tmps fun ts => X P E none c ⟨ts, s.heap⟩ fun e s' => match e with
    | .normal => br (keeps live k s') (some (.normal, forget live k s')) none
    | e => br (keeps liveO k s') (some (e, forget liveO k s')) none

/-- A LOOP BY ITS ROUNDS: 'L a', 'H a': what is known at a round's head; 'res a': how the loop ends from there. -/
theorem loop_of_XR {α : Type} {P : Program} {Inv : World → Prop} {E : Env} (hmx : P.follows .mixedOrders = true) (hIo : InvOk Inv) (hor : OrcOk P Inv E) {c : Code} (hlo : LoOk P Inv E c) {live liveO : List Nat} {k nt : Nat} {L : α → List AV} {H : α → List Box} {res : α → LR} {ok : α → Prop} (μ : α → Nat)
    (round : ∀ a, ok a → (∃ a', ok a' ∧ μ a' < μ a ∧ (res a').eval = (res a).eval ∧ XR P E live liveO k c ⟨mkTs nt (live.zip (L a)), H a⟩ = some (.normal, ⟨mkTs nt (live.zip (L a')), H a'⟩)) ∨
      ((res a).eval.1 ≠ .normal ∧ XR P E live liveO k c ⟨mkTs nt (live.zip (L a)), H a⟩ = some ((res a).eval.1, ⟨mkTs nt (liveO.zip (res a).eval.2.1), (res a).eval.2.2⟩))) (a : α) (ha : ok a) :
    Does P Inv (.loop c) (fun e s => e = (res a).eval.1 ∧ s = ⟨mkTs nt (liveO.zip (res a).eval.2.1), (res a).eval.2.2⟩) ⟨mkTs nt (live.zip (L a)), H a⟩ := by
  refine sem_weak (sem_loopN (fun n s => ∃ b, ok b ∧ n = μ b ∧ (res b).eval = (res a).eval ∧ s = ⟨mkTs nt (live.zip (L b)), H b⟩) (n0 := μ a) (.inl rfl) ⟨a, ha, rfl, rfl, rfl⟩ ?_)
  rintro n s ⟨b, hb, rfl, hr, rfl⟩
  have run : ∀ r, XR P E live liveO k c ⟨mkTs nt (live.zip (L b)), H b⟩ = some r → Does P Inv c (fun e s' => ∃ s'', Weak s' s'' ∧ r = (e, s'')) ⟨mkTs nt (live.zip (L b)), H b⟩ := fun r h => by
    unfold XR at h
    rw [forces_eq] at h
    refine sem_mono (X_sound (good := fun t => t = some r) hmx hIo (by simp) hor c _ _ hlo h) fun e s' hq => ?_
    have key : ∀ (lv : List Nat) (e' : Exit), br (keeps lv k s') (some (e', forget lv k s')) none = some r → ∃ s'', Weak s' s'' ∧ r = (e', s'') := fun lv e' hq => by
      obtain ⟨h1, h2⟩ := br_good (good := fun t => t = some r) (by simp) hq
      exact ⟨_, .inr ⟨lv, k, h1, rfl⟩, by simpa using h2.symm⟩
    cases e with
    | normal => exact key live .normal hq
    | exit id => exact key liveO (.exit id) hq
    | ret => exact key liveO .ret hq
    | goto l => exact key liveO (.goto l) hq
    | panic ch => exact key liveO (.panic ch) hq
    | outgrown => exact key liveO .outgrown hq
  rcases round b hb with ⟨b', hb', hμ, hr', hx⟩ | ⟨hne, hx⟩
  · refine sem_mono (run _ hx) fun e s' ⟨s'', hw, he⟩ => ?_
    simp only [Prod.mk.injEq] at he
    obtain ⟨rfl, hf⟩ := he
    exact ⟨μ b', _, hμ, hw, b', hb', rfl, hr'.trans hr, hf.symm⟩
  · refine sem_mono (run _ hx) fun e s' ⟨s'', hw, he⟩ => ?_
    simp only [Prod.mk.injEq] at he
    obtain ⟨he, hf⟩ := he
    rw [hr] at he hf hne
    have : ∃ s'', Weak s' s'' ∧ e = (res a).eval.1 ∧ s'' = ⟨mkTs nt (liveO.zip (res a).eval.2.1), (res a).eval.2.2⟩ := ⟨_, hw, he.symm, hf.symm⟩
    cases e with
    | normal => exact (hne he).elim
    | _ => exact this

end Go.Sim
