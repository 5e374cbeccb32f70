/- From a law's contract to its card: what is the same for every law of the seat. -/
import Derived.Test.YtkoepgogaojgmaaDoorCards
import Derived.Test.YtkoepgogaojgmaaDoorTie
import Derived.Test.YtkoepgogaojgmaaDoorLib
import Derived.WalkKit
import Derived.ProofKit
import Derived.OpenShut
import Derived.Deep.DeepHandedRow
import Derived.Lib.LaidTab
import Derived.Stop.LaidErr
import Derived.Deep.DeepLaidRun
set_option linter.unusedVariables false
set_option linter.unusedSimpArgs false
namespace Go.Sim
open Go.RowKit Go.Proofs Go.ChangeShapes Go.WideShapes Go.ChangeAt

theorem low_of_shaped {P : Program} {w : World} (h : w.ShapedOpen P) (hg : P.globals.size < P.low) : P.low ≤ w.heap.size := by
  obtain ⟨o, o₀, h1, _, _⟩ := h.2 (P.low - 1) (by omega) (by unfold Program.low at hg ⊢; omega)
  rcases Nat.lt_or_ge (P.low - 1) w.heap.size with h' | h'
  · omega
  · rw [Array.getElem?_eq_none h'] at h1; simp at h1

/-- The cells of a plain datum. -/
def cellsOfData : DataW Unit → List Value
  | .lit (.int k n) => [.int k n]
  | .agg l => l.flatMap fun d => match d with
    | .lit (.int k n) => [.int k n]
    | .agg l' => l'.flatMap fun d' => match d' with
      | .lit (.int k n) => [.int k n]
      | _ => []
    | _ => []
  | _ => []

/-- The heap with listed variables' cells laid. -/
noncomputable def laidHeap (P : Program) : List (String × DataW Unit) → Array Obj → Array Obj
  | [], h => h
  | x :: r, h => laidHeap P r (match P.globalNamed x.1 with
    | some g => h.modify g fun o => match o with
      | .cells _ t frozen => .cells (cellsOfData x.2).toArray t frozen
      | o => o
    | none => h)

/-- A world in which listed variables hold what is listed. -/
noncomputable def laidWorld (P : Program) (laid : List (String × DataW Unit)) (os : Os) : World :=
  { World.holding P os ⟨#[], #[], []⟩ with heap := laidHeap P laid (World.holding P os ⟨#[], #[], []⟩).heap }

/-- THE LAW's POSTCONDITION, where the world has only grown. -/
theorem post_true {H : Type} {enc : TypeId × Value → H} {P : Program} {f : Func} {s : ChangeSpec} {W W' : World} {args : Array Value} {ds : List (DataW H)} {before : List MemPlace} {tb : TypeId} (hs : s.vars = [])
    (hW : DataW.Whole enc P f.params.toList s.vars false W args.toList ds [] before) (hfn : (s.fn H ds).results = [.lit (.bool true)] ∧ (s.fn H ds).args = ds ∧ (s.fn H ds).vars = []) (hrt : f.resultTypes = #[tb]) (htb : P.underlying tb = some .bool)
    (hargs : DataW.TrodAll enc P W' 0 (fun b => decide (b < W.heap.size)) true f.params.toList args.toList ds before) (hb : Below W.heap.size W W') : s.post enc P f false true false false W args (.bool true) W' := by
  refine ⟨ds, [], before, [], before, [], hW, ?_, ?_, ?_, hb.frame _, fun h => by simp at h⟩
  · simp only [List.append_nil, hfn.1, hrt]
    exact trodAll_cons_mk (shut_bool htb _) trodAll_mk0
  · simpa [hfn.2.1] using hargs
  · simp only [List.append_nil, hfn.2.2, hs]; rfl
end Go.Sim

namespace Go.Sim
open Go.RowKit Go.Proofs Go.ChangeShapes Go.WideShapes Go.ChangeAt Go.Proofs.YtkoepgogaojgmaaDoor

theorem ownTryd : ownKnob Tryd.prog.godebug = none := by kernel_rfl

theorem lowTryd : Tryd.prog.globals.size < Tryd.prog.low := of_decide_eq_true (by kernel_rfl)

noncomputable def pow10Global : Nat := (Tryd.prog.globalNamed "internal/strconv.uint64pow10").getD 0

theorem pow10_tab : Rows.laid_internal_strconv_uint64pow10 = (Lib.tabData .u64 Lib.pow10Tab : DataW Unit) := by kernel_rfl

/-- What every law of the seat begins with. -/
theorem inv_of {W : World} {r : List (String × DataW Unit)} {a b c d : String × DataW Unit} (hl : r = [a, b, ("internal/strconv.uint64pow10", Rows.laid_internal_strconv_uint64pow10), c, d]) (hp : (r.all fun x => x.2.handleName?.isNone) = true) (hL : laidMetH Tryd.prog r W) (hsh : W.ShapedOpen Tryd.prog) : ITryd W := by
  rw [MakeChecks.laidMetH_plain _ _ _ hp] at hL
  subst hl
  refine ⟨hsh, low_of_shaped hsh lowTryd, ?_⟩
  have h := hL.tail.tail
  rw [pow10_tab] at h
  exact Lib.tabIs_of_head (g := pow10Global) (t := (Tryd.prog.globals[pow10Global]?).map (·.type) |>.getD 0) (e := 76) (n := 20) (by kernel_rfl) (by kernel_rfl) (by kernel_rfl) (by kernel_rfl) (by kernel_rfl) (by kernel_rfl) h
end Go.Sim
