/- From a law's contract to its card: what is the same for every law of the seat. -/
import Derived.Test.YtpnibjljhfgjaaaDoorCards
import Derived.Test.YtpnibjljhfgjaaaDoorTie
import Derived.Test.YtpnibjljhfgjaaaDoorLibR
import Derived.Test.YtpnibjljhfgjaaaDoorOpen
import Derived.ChangeMaps5
import Derived.WalkKit
import Derived.ProofKit
import Derived.OpenShut
import Derived.Deep.DeepHandedRow
import Derived.Lib.LaidTab
import Derived.Stop.LaidErr
import Derived.Deep.DeepLaidRun
set_option maxRecDepth 10000
set_option linter.unusedVariables false
set_option linter.unusedSimpArgs false
namespace Go.Sim
open Go.RowKit Go.Proofs Go.ChangeShapes Go.WideShapes Go.ChangeAt

theorem low_of_shaped {P : Program} {w : World} (h : w.ShapedOpen P) (hg : P.globals.size < P.low) : P.low ≤ w.heap.size := by
  obtain ⟨o, o₀, h1, _, _⟩ := h.2 (P.low - 1) (by omega) (by unfold Program.low at hg ⊢; omega)
  rcases Nat.lt_or_ge (P.low - 1) w.heap.size with h' | h'
  · omega
  · rw [Array.getElem?_eq_none h'] at h1; simp at h1

/-- The cells of a plain datum. -/
def cellsOfData : DataW Unit → List Value
  | .lit (.int k n) => [.int k n]
  | .agg l => l.flatMap fun d => match d with
    | .lit (.int k n) => [.int k n]
    | .agg l' => l'.flatMap fun d' => match d' with
      | .lit (.int k n) => [.int k n]
      | _ => []
    | _ => []
  | _ => []

/-- The heap with listed variables' cells laid. -/
noncomputable def laidHeap (P : Program) : List (String × DataW Unit) → Array Obj → Array Obj
  | [], h => h
  | x :: r, h => laidHeap P r (match P.globalNamed x.1 with
    | some g => h.modify g fun o => match o with
      | .cells _ t frozen => .cells (cellsOfData x.2).toArray t frozen
      | o => o
    | none => h)

/-- A world in which listed variables hold what is listed. -/
noncomputable def laidWorld (P : Program) (laid : List (String × DataW Unit)) (os : Os) : World :=
  { World.holding P os ⟨#[], #[], []⟩ with heap := laidHeap P laid (World.holding P os ⟨#[], #[], []⟩).heap }

/-- THE LAW's POSTCONDITION, where the world has only grown. -/
theorem post_true {H : Type} {enc : TypeId × Value → H} {P : Program} {f : Func} {s : ChangeSpec} {W W' : World} {args : Array Value} {ds : List (DataW H)} {before : List MemPlace} {tb : TypeId} (hs : s.vars = [])
    (hW : DataW.Whole enc P f.params.toList s.vars false W args.toList ds [] before) (hfn : (s.fn H ds).results = [.lit (.bool true)] ∧ (s.fn H ds).args = ds ∧ (s.fn H ds).vars = []) (hrt : f.resultTypes = #[tb]) (htb : P.underlying tb = some .bool)
    (hargs : DataW.TrodAll enc P W' 0 (fun b => decide (b < W.heap.size)) true f.params.toList args.toList ds before) (hb : Below W.heap.size W W') : s.post enc P f false true false false W args (.bool true) W' := by
  refine ⟨ds, [], before, [], before, [], hW, ?_, ?_, ?_, hb.frame _, fun h => by simp at h⟩
  · simp only [List.append_nil, hfn.1, hrt]
    exact trodAll_cons_mk (shut_bool htb _) trodAll_mk0
  · simpa [hfn.2.1] using hargs
  · simp only [List.append_nil, hfn.2.2, hs]; rfl

theorem TrodAll_below {H : Type} {enc : TypeId × Value → H} {P : Program} {W W' : World} (hl : laidOutB P = true) (hb : Below W.heap.size W W') : ∀ {ts : List TypeId} {vs : List Value} {ds : List (DataW H)} {ps : List MemPlace}, (ts.all fun t => P.readableRec t && decide (t < P.types.size)) = true →
    DataW.TrodAll enc P W 0 (fun _ => true) true ts vs ds ps → DataW.TrodAll enc P W' 0 (fun b => decide (b < W.heap.size)) true ts vs ds ps
  | [], vs, ds, ps, _, h => by
    obtain ⟨rfl, rfl, rfl⟩ := trodAll_nil h
    exact trodAll_mk0
  | t :: ts, vs, ds, ps, ht, h => by
    have hlt := h.lt
    obtain ⟨v, vs', d, ds', p, q, rfl, rfl, rfl, hd, hr⟩ := trodAll_cons h
    simp only [List.all_cons, Bool.and_eq_true, decide_eq_true_eq] at ht
    exact trodAll_cons_mk (Below.trod hl ht.1.1 ht.1.2 hd hb fun x hx => hlt x (by simp [hx])) (TrodAll_below hl hb ht.2 hr)

/-! ### Arguments, one by one -/
section
variable {H : Type} {enc : TypeId × Value → H} {P : Program} {w : World} {base b n : Nat} {sp : Nat → Bool} {held : Bool} {v : Value} {d : DataW H} {ps : List MemPlace} {t : TypeId}

theorem open_cell {T : Ty} (hf : flat P n t = some [T]) (hv : v.cells = #[v]) (hd : DataW.Trod enc P w b sp held t v d ps) : ∃ a, Rel w (fun _ => False) noBox v a ∧ OfTy T a ∧ ∀ μ : DataW H → Nat, Meas μ → a.wt ≤ μ d := by
  obtain ⟨fuel, hf'⟩ := hd
  rw [hv] at hf'
  obtain ⟨ra, ha, hw⟩ := open_flat n t [T] hf fuel _ _ hf'
  cases ha with
  | cons h ht r => cases r with
    | nil => exact ⟨_, h, ht, fun μ hμ => by simpa [AV.wts] using hw μ hμ⟩

theorem open_sl {e : TypeId} {es : List Ty} (ht : P.underlying t = some (.slice e)) (hf : flat P n t = some [.slice es]) (hval : Value.okWide P w .any base t v) (hd : DataW.Trod enc P w b sp held t v d ps) : ∃ a, Rel w (fun _ => False) noBox v a ∧ OfTy (.slice es) a ∧ ∀ μ : DataW H → Nat, Meas μ → a.wt ≤ μ d := by
  obtain ⟨x, len, cap, rfl⟩ := okWide_slice ht hval
  exact open_cell hf rfl hd

theorem open_in {k : IntKind} (ht : P.underlying t = some (.int k)) (hval : Value.okWide P w .any base t v) (hd : DataW.Trod enc P w b sp held t v d ps) : ∃ m, Rel w (fun _ => False) noBox v (.int k m) ∧ (Lit.int k m).wf = true ∧ ∀ μ : DataW H → Nat, Meas μ → (AV.int k m).wt ≤ μ d := by
  obtain ⟨m, rfl⟩ := okWide_int ht hval
  obtain ⟨a, h, hT, hB⟩ := open_cell (n := 1) (T := .int k) (by simp [flat, ht]) rfl hd
  cases hT with
  | int _ m' hw => obtain rfl : m' = m := by cases h; rfl
                   exact ⟨m', h, hw, hB⟩

theorem view_list {α : Type} {e : α → AV} {wf : α → Prop} {es : List Ty} (hv : ∀ x : AV, x.cells.length = es.length → x = elemOf x.cells → (∀ j, j < es.length → OfTy (es.getD j .bool) (x.cells.getD j .top)) → ∃ a, x = e a ∧ wf a) {x : AV} (h : OfTy (.slice es) x) :
    ∃ l : List α, x = .list es.length (l.map e) ∧ l.length ≤ maxLen ∧ ∀ a, a ∈ l → wf a := by
  cases h with
  | slice _ xs hn hl hx =>
    have : ∀ xs : List AV, (∀ x, x ∈ xs → ∃ a, x = e a ∧ wf a) → ∃ l : List α, xs = l.map e ∧ ∀ a, a ∈ l → wf a := by
      intro xs
      induction xs with
      | nil => exact fun _ => ⟨[], rfl, fun a h => by simp at h⟩
      | cons x xs ih =>
        intro h
        obtain ⟨a, rfl, ha⟩ := h x (by simp)
        obtain ⟨l, rfl, hl⟩ := ih fun y hy => h y (by simp [hy])
        exact ⟨a :: l, rfl, fun b hb => (List.mem_cons.1 hb).elim (fun he => he ▸ ha) (fun hb => hl b hb)⟩
    obtain ⟨l, rfl, hw⟩ := this xs fun x hx' => hv x (hl x hx').1 (hl x hx').2 (fun j hj => hx x j hx' hj)
    exact ⟨l, rfl, by simpa using hn, hw⟩
end

end Go.Sim

namespace Go.Sim
open Go.RowKit Go.Proofs Go.ChangeShapes Go.WideShapes Go.ChangeAt Go.Proofs.YtpnibjljhfgjaaaDoor

theorem laidTryd : laidOutB Tryd.prog = true := by kernel_rfl

theorem ownTryd : ownKnob Tryd.prog.godebug = none := by kernel_rfl

theorem lowTryd : Tryd.prog.globals.size < Tryd.prog.low := of_decide_eq_true (by kernel_rfl)

noncomputable def pow10Global : Nat := (Tryd.prog.globalNamed "internal/strconv.uint64pow10").getD 0

theorem pow10_tab : Rows.laid_internal_strconv_uint64pow10 = (Lib.tabData .u64 Lib.pow10Tab : DataW Unit) := by kernel_rfl

/-- What every law of the seat begins with. -/
theorem inv_of {W : World} {r : List (String × DataW Unit)} {a b c d : String × DataW Unit} (hl : r = [a, b, ("internal/strconv.uint64pow10", Rows.laid_internal_strconv_uint64pow10), c, d]) (hp : (r.all fun x => x.2.handleName?.isNone) = true) (hL : laidMetH Tryd.prog r W) (hsh : W.ShapedOpen Tryd.prog) : ITryd W := by
  rw [MakeChecks.laidMetH_plain _ _ _ hp] at hL
  subst hl
  refine ⟨hsh, low_of_shaped hsh lowTryd, ?_⟩
  have h := hL.tail.tail
  rw [pow10_tab] at h
  exact Lib.tabIs_of_head (g := pow10Global) (t := (Tryd.prog.globals[pow10Global]?).map (·.type) |>.getD 0) (e := 98) (n := 20) (by kernel_rfl) (by kernel_rfl) (by kernel_rfl) (by kernel_rfl) (by kernel_rfl) (by kernel_rfl) h

section
variable {H : Type} {enc : TypeId × Value → H} {w : World} {base b : Nat} {sp : Nat → Bool} {held : Bool} {v : Value} {d : DataW H} {ps : List MemPlace}
theorem open_err (hval : Value.okWide Tryd.prog w .any base 22 v) (hd : DataW.Trod enc Tryd.prog w b sp held 22 v d ps) : ∃ m : Int, Rel w (fun _ => False) noBox v (.int .i64 m) ∧ (∀ μ : DataW H → Nat, Meas μ → (AV.int .i64 m).wt ≤ μ d) ∧ (Lit.int .i64 m).wf = true := by
  obtain ⟨m, h1, h2, h3⟩ := open_in Tryd.underlying22 hval hd
  exact ⟨m, h1, h3, h2⟩
end

theorem bulkAll_sum {H : Type} : ∀ l : List (DataW H), Rows.uptoBulkAll l = (l.map Rows.uptoBulk).sum
  | [] => rfl
  | d :: r => by simp [Rows.uptoBulkAll, bulkAll_sum r]
theorem meas_bulk {H : Type} : Meas (Rows.uptoBulk (H := H)) :=
  ⟨fun l => by cases l <;> simp [Rows.uptoBulk], fun s => by simp [Rows.uptoBulk], by simp [Rows.uptoBulk], fun es sp => by simp only [Rows.uptoBulk, bulkAll_sum]; omega, fun l => by simp only [Rows.uptoBulk, bulkAll_sum]; omega⟩
end Go.Sim
