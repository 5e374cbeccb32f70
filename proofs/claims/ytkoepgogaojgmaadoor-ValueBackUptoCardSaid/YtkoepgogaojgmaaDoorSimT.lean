/- The executor in use: environments of contracts, and contracts out of runs. -/
import Derived.Test.YtkoepgogaojgmaaDoorSimS
import Derived.KernelRfl
set_option linter.unusedVariables false
set_option linter.unusedSimpArgs false
set_option linter.unnecessarySimpa false
namespace Go.Sim
open Go.RowKit

theorem br_map {α β : Type} {f : α → β} {t : Bool} {a' b' : β} {a b : α} (ha : a' = f a) (hb : b' = f b) : br t a' b' = f (br t a b) := by
  cases t <;> assumption

theorem br_opt {α β : Type} {F : α → β} {t pa pb : Bool} {a' b' : Option β} {a b : α} (ha : a' = br pa (some (F a)) none) (hb : b' = br pb (some (F b)) none) : br t a' b' = br (br t pa pb) (some (F (br t a b))) none := by
  cases t <;> assumption

theorem br_if {α : Type} (t : Bool) (a b : α) : br t a b = if t = true then a else b := by cases t <;> rfl
theorem br_tt {α : Type} (a b : α) : br true a b = a := rfl
theorem br_ff {α : Type} (a b : α) : br false a b = b := rfl

def Env.with (E : Env) (g : FuncId) (o : List AV → Option (Bool × AV)) : Env := { E with orc := fun g' xs => match Nat.beq g' g with
  | true => o xs
  | false => E.orc g' xs }

def Env.none : Env := ⟨fun _ _ => .none, fun _ => [], fun _ => [], fun _ _ _ => .none, 0, 100000, false⟩

def OcOk (P : Program) (Inv : World → Prop) (g : FuncId) (o : List AV → Option (Bool × AV)) : Prop := ∀ xs r, o xs = some (true, r) → Good P Inv g xs r

section
variable {P : Program} {Inv : World → Prop} {E : Env}

theorem orcOk_none : OrcOk P Inv Env.none := fun g xs r h => by simp [Env.none] at h

theorem OrcOk.with (h : OrcOk P Inv E) {g : FuncId} {o : List AV → Option (Bool × AV)} (ho : OcOk P Inv g o) : OrcOk P Inv (E.with g o) := fun g' xs r e => by
  unfold Env.with at e
  simp only at e
  split at e
  · rename_i hb; have := Nat.eq_of_beq_eq_true hb; subst this; exact ho xs r e
  · exact h g' xs r e

theorem loOk_none {c : Code} (h : ∀ n vs H, E.lo n vs H = .none) : LoOk P Inv E c := fun l _ vals H r hs => by rw [h] at hs; simp at hs

/-- An environment for a function with one loop of its own. -/
def Env.loop (E : Env) (nt : Nat) (live liveO : List Nat) (lo : List AV → List Box → Option (Bool × LR)) : Env := { E with nt := nt, live := fun _ => live, liveO := fun _ => liveO, lo := fun _ => lo }

theorem OrcOk.loop (h : OrcOk P Inv E) {nt : Nat} {live liveO : List Nat} {lo : List AV → List Box → Option (Bool × LR)} : OrcOk P Inv (E.loop nt live liveO lo) := h

theorem loOk_nil {c : Code} (h : loopsOf c = []) : LoOk P Inv E c := fun l hl => by rw [h] at hl; simp at hl

theorem loOk_one {c l : Code} (h : loopsOf c = [l]) (hl : LoopOk P Inv E.nt (E.live (codeId l)) (E.liveO (codeId l)) l (E.lo (codeId l))) : LoOk P Inv E c := fun l' hm => by
  rw [h] at hm
  have := List.mem_singleton.1 hm
  subst this; exact hl

theorem good_XF (hmx : P.follows .mixedOrders = true) (hIo : InvOk Inv) (hor : OrcOk P Inv E) {f : FuncId} {fn : Func} {args : List AV} {r : AV} (hf : P.funcs[f]? = some fn) (hb : fn.body.isSome = true) (hname : (fn.name == "runtime.NumGoroutine") = false)
    (hl : LoOk P Inv E (fn.body.getD .skip)) (h : XF P E fn (fn.body.getD .skip) args = some r) : Good P Inv f args r := by
  cases hc : fn.body with
  | none => simp [hc] at hb
  | some c => exact good_of_XF hmx hIo hor hf hc hname (by simpa [hc] using hl) (by simpa [hc] using h)

/-- Calls that no contract names are run themselves. -/
def Env.deep (P : Program) (E : Env) : Nat → Env
  | 0 => E
  | n + 1 => { E with orc := fun g xs => match E.orc g xs with
    | some x => some x
    | .none => match P.funcs[g]? with
      | some fn => match fn.body with
        | some c => match fn.name == "runtime.NumGoroutine" with
          | true => .none
          | false => match XF P (Env.deep P E n) fn c xs with
            | some r => some (true, r)
            | .none => .none
        | .none => .none
      | .none => .none }

theorem deep_lo (P : Program) (E : Env) : ∀ n, (Env.deep P E n).lo = E.lo
  | 0 => rfl
  | n + 1 => rfl

theorem orcOk_deep (hmx : P.follows .mixedOrders = true) (hIo : InvOk Inv) (hE : OrcOk P Inv E) (hlo : ∀ n vs H, E.lo n vs H = .none) : ∀ n, OrcOk P Inv (Env.deep P E n)
  | 0 => hE
  | n + 1 => fun g xs r h => by
    simp only [Env.deep] at h
    split at h
    · rename_i x hx
      simp only [Option.some.injEq] at h; subst h
      exact hE g xs r hx
    · split at h
      case h_2 => simp at h
      rename_i fn hf
      split at h
      case h_2 => simp at h
      rename_i c hc
      split at h
      · simp at h
      rename_i hn
      split at h
      case h_2 => simp at h
      rename_i r' hr
      simp only [Option.some.injEq, Prod.mk.injEq, true_and] at h; subst h
      exact good_of_XF hmx hIo (orcOk_deep hmx hIo hE hlo n) hf hc hn (loOk_none fun k vs H => by rw [deep_lo]; exact hlo k vs H) hr

/-- The first loop of a function. -/
def loopAt (fn : Func) (i : Nat) : Code := (loopsOf (fn.body.getD .skip)).getD i .skip

theorem wrap_i64 {n : Int} (h1 : -9223372036854775808 ≤ n) (h2 : n ≤ 9223372036854775807) : IntKind.i64.wrap n = n := by
  simp only [IntKind.wrap, IntKind.signed, IntKind.bits]; simp; omega
end
end Go.Sim
