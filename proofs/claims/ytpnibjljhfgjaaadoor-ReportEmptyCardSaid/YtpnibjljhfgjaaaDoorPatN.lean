/- A function that hands back nil in some cases and a slice in others: nil counts as the empty list. -/
import Derived.Test.YtpnibjljhfgjaaaDoorPat
set_option linter.unusedVariables false
namespace Go.Sim
open Go.RowKit

def EncS {α : Type} (f : α → AV) (a : Option α) (b : Option AV) : Prop := ∀ r, a = some r → ∃ x, b = some x ∧ Sub x (f r)
theorem EncS.none {α : Type} {f : α → AV} {b : Option AV} : EncS f .none b := fun r h => by simp at h
theorem EncS.some {α : Type} {f : α → AV} {a : α} {b : AV} (h : Sub b (f a)) : EncS f (Option.some a) (Option.some b) := fun r e => by simp only [Option.some.injEq] at e; subst e; exact ⟨b, rfl, h⟩
theorem EncS.br {α : Type} {f : α → AV} {t : Bool} {a a' : Option α} {b b' : Option AV} (h1 : EncS f a b) (h2 : EncS f a' b') : EncS f (Sim.br t a a') (Sim.br t b b') := by cases t <;> assumption

theorem sub_pair_nils (sz : Nat) (x : AV) : Sub (.tuple [.nils, x]) (.tuple [.list sz [], x]) := fun w A M v h => by
  obtain ⟨vs, rfl, hs, hr⟩ := h.tuple_inv
  refine .tuple vs _ hs fun i hi => ?_
  match i, hi with
  | 0, _ => exact sub_nils sz w A M _ (hr 0 (by simp))
  | 1, _ => exact hr 1 (by simp)

theorem Good.sub {P : Program} {Inv : IV} {f : FuncId} {args : List AV} {r r' : AV} (h : Good P Inv f args r) (hs : Sub r r') : Good P Inv f args r' :=
  ⟨h.1, fun w A vs hI hA hrc => (h.2 w A vs hI hA hrc).mono fun e w' ⟨v, he, hb, hr⟩ => ⟨v, he, hb, hs w' A noBox v hr⟩⟩
end Go.Sim
