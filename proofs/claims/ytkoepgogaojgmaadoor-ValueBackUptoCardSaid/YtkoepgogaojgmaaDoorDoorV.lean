/- Values of the program's own struct of two integers and a text, as a law is handed them. -/
import Derived.Test.YtkoepgogaojgmaaDoorDoor
import Derived.ChangeMaps5
set_option linter.unusedVariables false
set_option linter.unusedSimpArgs false
namespace Go.Sim
open Go.RowKit Go.Proofs Go.ChangeShapes Go.WideShapes Go.ChangeAt Go.Proofs.YtkoepgogaojgmaaDoor

theorem size_value : Tryd.prog.cellsOf 23 = 3 := by kernel_rfl
theorem size_int : Tryd.prog.cellsOf 3 = 1 := by kernel_rfl
theorem size_str : Tryd.prog.cellsOf 9 = 1 := by kernel_rfl

section
variable {H : Type} {enc : TypeId × Value → H} {w : World} {base b : Nat} {sp : Nat → Bool} {held : Bool} {v : Value} {d : DataW H} {ps : List MemPlace}

theorem open_str {P : Program} {t : TypeId} (ht : P.underlying t = some .string) (hval : Value.okWide P w .any base t v) (hd : DataW.Trod enc P w b sp held t v d ps) :
    ∃ s, v = .string s ∧ d = .lit (.string s.data.toList) ∧ ps = [] ∧ s.size ≤ maxLen := by
  obtain ⟨s, rfl⟩ := okWide_string ht hval
  obtain ⟨fuel, hf⟩ := hd
  obtain ⟨s', h, hx, hs⟩ := DataW.trod_string ht hf
  simp [Value.cells] at h
  subst h
  simp only [Prod.mk.injEq] at hx
  exact ⟨s, rfl, hx.1, hx.2, hs⟩

theorem shut_str {P : Program} {t : TypeId} (ht : P.underlying t = some .string) {s : ByteArray} (hs : s.size ≤ maxLen) : DataW.Trod enc P w b sp held t (.string s) (.lit (.string s.data.toList)) [] :=
  ⟨1, by simp [DataW.trod, Value.cells, ht, hs]⟩

def ValueWf (k i : Int) (t : ByteArray) : Prop := (Lit.int .i64 k).wf = true ∧ (Lit.int .i64 i).wf = true ∧ t.size ≤ maxLen

theorem open_value (hval : Value.okWide Tryd.prog w .any base 23 v) (hd : DataW.Trod enc Tryd.prog w b sp held 23 v d ps) :
    ∃ k i t, v = .agg #[.int .i64 k, .int .i64 i, .string t] ∧ d = .agg [.lit (.int .i64 k), .lit (.int .i64 i), .lit (.string t.data.toList)] ∧ ps = [] ∧ ValueWf k i t := by
  obtain ⟨cs, rfl, hsz, _⟩ : ∃ cs, v = .agg cs ∧ cs.size = Tryd.prog.cellsOf 23 ∧ Row.okWide Tryd.prog w .any base 23 cs := by
    simpa [Value.okWide, Tryd.underlying23] using hval
  rw [size_value] at hsz
  obtain ⟨fuel, hf⟩ := hd
  obtain ⟨xs, n, _, hx, hl, hlen, hfs⟩ := DataW.trod_struct Tryd.underlying23 hf
  obtain ⟨c0, c1, c2, rfl⟩ : ∃ c0 c1 c2, cs = #[c0, c1, c2] := by
    obtain ⟨l⟩ := cs
    match l, hsz with
    | [c0, c1, c2], _ => exact ⟨c0, c1, c2, rfl⟩
  obtain ⟨x0, x1, x2, rfl⟩ : ∃ x0 x1 x2, xs = [x0, x1, x2] := by
    match xs, hlen with
    | [x0, x1, x2], _ => exact ⟨x0, x1, x2, rfl⟩
  have h0 : DataW.trod enc Tryd.prog w b sp held n 3 [c0] = some x0 := by simpa [size_int, Value.cells] using hfs 0 _ rfl
  have h1 : DataW.trod enc Tryd.prog w b sp held n 3 [c1] = some x1 := by simpa [size_int, Value.cells] using hfs 1 _ rfl
  have h2 : DataW.trod enc Tryd.prog w b sp held n 9 [c2] = some x2 := by simpa [size_str, Value.cells] using hfs 2 _ rfl
  obtain ⟨k, e0, y0, w0⟩ := DataW.trod_int Tryd.underlying3 h0
  obtain ⟨i, e1, y1, w1⟩ := DataW.trod_int Tryd.underlying3 h1
  obtain ⟨t, e2, y2, w2⟩ := DataW.trod_string Tryd.underlying9 h2
  simp only [List.cons.injEq, and_true] at e0 e1 e2
  subst e0 e1 e2 y0 y1 y2
  simp only [Prod.mk.injEq] at hx
  exact ⟨k, i, t, rfl, by simpa using hx.1, by simpa using hx.2, w0, w1, w2⟩

theorem shut_value {k i : Int} {t : ByteArray} (hw : ValueWf k i t) : DataW.Trod enc Tryd.prog w b sp held 23 (.agg #[.int .i64 k, .int .i64 i, .string t]) (.agg [.lit (.int .i64 k), .lit (.int .i64 i), .lit (.string t.data.toList)]) [] := by
  obtain ⟨w0, w1, w2⟩ := hw
  refine ⟨2, ?_⟩
  have h0 : DataW.trod enc Tryd.prog w b sp held 1 3 [.int .i64 k] = some (.lit (.int .i64 k), []) := by simp [DataW.trod, Tryd.underlying3, w0]
  have h1 : DataW.trod enc Tryd.prog w b sp held 1 3 [.int .i64 i] = some (.lit (.int .i64 i), []) := by simp [DataW.trod, Tryd.underlying3, w1]
  have h2 : DataW.trod enc Tryd.prog w b sp held 1 9 [.string t] = some (.lit (.string t.data.toList), []) := by simp [DataW.trod, Tryd.underlying9, w2]
  exact trod_struct_mk (n := 1) (xs := [(.lit (.int .i64 k), []), (.lit (.int .i64 i), []), (.lit (.string t.data.toList), [])]) Tryd.underlying23 (by rw [size_value]; rfl) (by
    simp [size_int, size_str, Value.cells, h0, h1, h2])

theorem rel_value {A : Nat → Prop} {M : Nat → Option MB} {k i : Int} {t : ByteArray} : Rel w A M (.agg #[.int .i64 k, .int .i64 i, .string t]) (.agg [.int .i64 k, .int .i64 i, .str t.data.toList]) := by
  refine .agg _ _ rfl fun j hj => ?_
  match j, hj with
  | 0, _ => exact .int _ _
  | 1, _ => exact .int _ _
  | 2, _ => exact .str _
end

theorem str_len {s : ByteArray} (h : s.size ≤ maxLen) : s.data.toList.length ≤ maxLen := by simpa using h
end Go.Sim
