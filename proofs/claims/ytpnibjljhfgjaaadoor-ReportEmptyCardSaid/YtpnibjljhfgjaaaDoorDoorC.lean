/- Opening of arguments: periods and lists of them. -/
import Derived.Test.YtpnibjljhfgjaaaDoorDoorZ
import Derived.Test.YtpnibjljhfgjaaaDoorSwP
set_option linter.unusedVariables false
set_option linter.unusedSimpArgs false
set_option maxRecDepth 100000
namespace Go.Sim
open Go.RowKit Go.Proofs Go.ChangeShapes Go.WideShapes Go.ChangeAt

def tyP : List Ty := [.int .i64, .int .i64]
theorem flat_pers : flat Tryd.prog 9 29 = some [.slice tyP] := by kernel_rfl
theorem flat_per : flat Tryd.prog 9 27 = some [.int .i64, .int .i64] := by kernel_rfl
def M.PerWf (p : M.Per) : Prop := (Lit.int .i64 p.1).wf = true ∧ (Lit.int .i64 p.2).wf = true

theorem view_per (x : AV) (hl : x.cells.length = tyP.length) (he : x = elemOf x.cells) (hx : ∀ j, j < tyP.length → OfTy (tyP.getD j .bool) (x.cells.getD j .top)) : ∃ a, x = M.encP a ∧ M.PerWf a := by
  generalize x.cells = cs at *
  match cs, hl with
  | [c0, c1], _ =>
    have h0 := hx 0 (by decide)
    have h1 := hx 1 (by decide)
    change OfTy (.int .i64) c0 at h0
    change OfTy (.int .i64) c1 at h1
    cases h0 with
    | int _ k hk => cases h1 with
      | int _ i hi => exact ⟨(k, i), he, hk, hi⟩

section
variable {H : Type} {enc : TypeId × Value → H} {w : World} {base b : Nat} {sp : Nat → Bool} {held : Bool} {v : Value} {d : DataW H} {ps : List MemPlace}
theorem open_agg' {P : Program} {t : TypeId} {n : Nat} {Ts : List Ty} {fs : Array Field} (ht : P.underlying t = some (.struct fs)) (hf : flat P n t = some Ts) (hval : Value.okWide P w .any base t v) (hd : DataW.Trod enc P w b sp held t v d ps) :
    ∃ cs : List AV, Rel w (fun _ => False) noBox v (.agg cs) ∧ cs.length = Ts.length ∧ (∀ j, j < Ts.length → OfTy (Ts.getD j .bool) (cs.getD j .top)) ∧ ∀ μ : DataW H → Nat, Meas μ → AV.wts cs ≤ μ d := by
  obtain ⟨vs, rfl, _⟩ := okWide_struct ht hval
  obtain ⟨fuel, hf'⟩ := hd
  obtain ⟨xs, ha, hw⟩ := open_flat n t Ts hf fuel _ _ hf'
  obtain ⟨l1, l2⟩ := ha.len
  have l1' : vs.size = Ts.length := by simpa [Value.cells] using l1
  refine ⟨xs, .agg vs xs (by omega) fun i hi => ?_, l2, fun j hj => (ha.get j hj).2, fun μ hμ => hw μ hμ⟩
  have := (ha.get i (by omega)).1
  simpa [Value.cells, List.getD_eq_getElem?_getD, Array.getD_eq_getD_getElem?] using this

theorem open_pers (hval : Value.okWide Tryd.prog w .any base 29 v) (hd : DataW.Trod enc Tryd.prog w b sp held 29 v d ps) : ∃ l : List M.Per, Rel w (fun _ => False) noBox v (.list 2 (l.map M.encP)) ∧ (∀ μ : DataW H → Nat, Meas μ → (AV.list 2 (l.map M.encP)).wt ≤ μ d) ∧ (l.length ≤ maxLen ∧ ∀ y, y ∈ l → M.PerWf y) := by
  obtain ⟨a, h, hT, hB⟩ := open_sl Tryd.underlying29 flat_pers hval hd
  obtain ⟨l, rfl, hw⟩ := view_list (es := tyP) view_per hT
  exact ⟨l, h, hB, hw⟩
theorem open_per (hval : Value.okWide Tryd.prog w .any base 27 v) (hd : DataW.Trod enc Tryd.prog w b sp held 27 v d ps) : ∃ p : M.Per, Rel w (fun _ => False) noBox v (.agg [.int .i64 p.1, .int .i64 p.2]) ∧ (∀ μ : DataW H → Nat, Meas μ → (AV.agg [.int .i64 p.1, .int .i64 p.2]).wt ≤ μ d) ∧ M.PerWf p := by
  obtain ⟨cs, h, hl, hx, hB⟩ := open_agg' Tryd.underlying27 flat_per hval hd
  match cs, hl with
  | [c0, c1], _ =>
    have h0 := hx 0 (by decide)
    have h1 := hx 1 (by decide)
    change OfTy (.int .i64) c0 at h0
    change OfTy (.int .i64) c1 at h1
    cases h0 with
    | int _ n0 w0 => cases h1 with
      | int _ n1 w1 => exact ⟨(n0, n1), h, fun μ hμ => hB μ hμ, w0, w1⟩
theorem open_num (hval : Value.okWide Tryd.prog w .any base 3 v) (hd : DataW.Trod enc Tryd.prog w b sp held 3 v d ps) : ∃ m : Int, Rel w (fun _ => False) noBox v (.int .i64 m) ∧ (∀ μ : DataW H → Nat, Meas μ → (AV.int .i64 m).wt ≤ μ d) ∧ (Lit.int .i64 m).wf = true := by
  obtain ⟨m, h1, h2, h3⟩ := open_in Tryd.underlying3 hval hd
  exact ⟨m, h1, h3, h2⟩
end
end Go.Sim
