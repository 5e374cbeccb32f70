/- Abstract values of the model's language and their relation to the model's values and worlds: the ground of a library that is proved once and used by every claim of this seat. -/
import Derived.Orders
import Derived.Below
import Derived.Laws.Entries
import Derived.Laws.CopyRow
import Derived.Laws.Tables
import Derived.Great.BuildSlice
import Derived.Laws.StructEq
set_option linter.unusedVariables false
set_option linter.unusedSimpArgs false
set_option linter.unnecessarySimpa false
namespace Go.Sim
open Go.RowKit

/-- An abstract value. 'top': nothing is known. 'list': a slice that nobody writes any more, element by element. 'eptr': a pointer into such a slice. 'own', 'osl': a pointer, a slice into a box of the call's own. -/
inductive AV where
  | top
  | bool (b : Bool)
  | int (k : IntKind) (n : Int)
  | str (s : List UInt8)
  | agg (cs : List AV)
  | nils
  | list (sz : Nat) (xs : List AV)
  | eptr (sz : Nat) (xs : List AV) (i j : Nat)
  | own (id ver i j : Nat)
  | osl (id ver off len : Nat)
  | nilptr
  | func (f : FuncId) (cs : List AV)
  | nilfn
  | tuple (vs : List AV)
  | gptr (g : Nat)

instance : Inhabited AV := ⟨.top⟩

def AV.cells : AV → List AV
  | .agg cs => cs
  | x => [x]

/-- The value of one cell. -/
def AV.one : AV → Bool
  | .agg _ | .tuple _ | .top => false
  | _ => true

def AV.okElem (sz : Nat) (x : AV) : Bool := x.cells.length == sz && x.cells.all AV.one

structure MB where
  b : Nat
  ver : Nat
  sz : Nat
  cap : Nat
  ty : TypeId

inductive Rel (w : World) (A : Nat → Prop) (M : Nat → Option MB) : Value → AV → Prop where
  | top (v : Value) : Rel w A M v .top
  | bool (b : Bool) : Rel w A M (.bool b) (.bool b)
  | int (k : IntKind) (n : Int) : Rel w A M (.int k n) (.int k n)
  | str (s : ByteArray) : Rel w A M (.string s) (.str s.data.toList)
  | agg (vs : Array Value) (cs : List AV) (h : vs.size = cs.length) (hr : ∀ i, i < cs.length → Rel w A M (vs.getD i undef) (cs.getD i .top)) : Rel w A M (.agg vs) (.agg cs)
  | nils : Rel w A M (.slice none 0 0) .nils
  | list0 (a : Option Addr) (cap sz : Nat) : Rel w A M (.slice a 0 cap) (.list sz [])
  | list (b off cap sz : Nat) (xs : List AV) (val : Nat → Nat → Value) (ha : ¬ A b) (hb : b < w.heap.size) (hne : xs ≠ []) (hcap : xs.length ≤ cap) (hsz : ∀ x, x ∈ xs → x.okElem sz = true)
      (hc : ∀ i j, i < xs.length → j < sz → w.cell? ⟨b, off + i * sz + j, none⟩ = some (val i j))
      (hr : ∀ i j, i < xs.length → j < sz → Rel w A M (val i j) ((xs.getD i .top).cells.getD j .top)) : Rel w A M (.slice (some ⟨b, off, none⟩) xs.length cap) (.list sz xs)
  | eptr (b off sz : Nat) (xs : List AV) (i0 j0 : Nat) (val : Nat → Nat → Value) (ha : ¬ A b) (hb : b < w.heap.size) (hi : i0 < xs.length) (hsz : ∀ x, x ∈ xs → x.okElem sz = true)
      (hc : ∀ i j, i < xs.length → j < sz → w.cell? ⟨b, off + i * sz + j, none⟩ = some (val i j))
      (hr : ∀ i j, i < xs.length → j < sz → Rel w A M (val i j) ((xs.getD i .top).cells.getD j .top)) : Rel w A M (.pointer (some ⟨b, off + i0 * sz + j0, none⟩)) (.eptr sz xs i0 j0)
  | own (v : Value) (id ver i j : Nat) (m : MB) (hm : M id = some m) (hv : ver ≤ m.ver) (h1 : v.oneCell' = true) (he : ver = m.ver → v = .pointer (some ⟨m.b, i * m.sz + j, none⟩)) : Rel w A M v (.own id ver i j)
  | osl (v : Value) (id ver off len : Nat) (m : MB) (hm : M id = some m) (hv : ver ≤ m.ver) (h1 : v.oneCell' = true)
      (he : ver = m.ver → off + len ≤ m.cap ∧ ∃ a, v = .slice (some a) len (m.cap - off) ∧ (off < m.cap ∨ off = 0 → a = ⟨m.b, off * m.sz, none⟩)) : Rel w A M v (.osl id ver off len)
  | nilptr : Rel w A M (.pointer none) .nilptr
  | func (f : FuncId) (vs : Array Value) (cs : List AV) (h : vs.size = cs.length) (hr : ∀ i, i < cs.length → Rel w A M (vs.getD i undef) (cs.getD i .top)) : Rel w A M (.func (.func f) #[] vs) (.func f cs)
  | nilfn : Rel w A M .nilFunc .nilfn
  | tuple (vs : Array Value) (cs : List AV) (h : vs.size = cs.length) (hr : ∀ i, i < cs.length → Rel w A M (vs.getD i undef) (cs.getD i .top)) : Rel w A M (.tuple vs) (.tuple cs)
  | gptr (g : Nat) : Rel w A M (.pointer (some ⟨g, 0, none⟩)) (.gptr g)

def MExt (M M' : Nat → Option MB) : Prop := ∀ id m, M id = some m → ∃ m', M' id = some m' ∧ (m' = m ∨ m.ver < m'.ver)

theorem MExt.refl (M : Nat → Option MB) : MExt M M := fun _ m h => ⟨m, h, .inl rfl⟩

theorem MExt.trans {M M' M'' : Nat → Option MB} (h : MExt M M') (h' : MExt M' M'') : MExt M M'' := fun id m hm => by
  obtain ⟨m1, h1, e1⟩ := h id m hm
  obtain ⟨m2, h2, e2⟩ := h' id m1 h1
  refine ⟨m2, h2, ?_⟩
  rcases e1 with rfl | e1 <;> rcases e2 with rfl | e2
  · exact .inl rfl
  · exact .inr e2
  · exact .inr e1
  · exact .inr (Nat.lt_trans e1 e2)

theorem cell?_of_heap {w w' : World} {b o : Nat} (h : w'.heap[b]? = w.heap[b]?) : w'.cell? ⟨b, o, none⟩ = w.cell? ⟨b, o, none⟩ := by
  simp [World.cell?, h]

/-- What was so stays so: blocks that are not to be avoided keep their content; fewer blocks are to be avoided; boxes are added or grow older. -/
theorem Rel.mono {w w' : World} {A A' : Nat → Prop} {M M' : Nat → Option MB} {v : Value} {x : AV} (h : Rel w A M v x)
    (hw : ∀ b, b < w.heap.size → ¬ A b → w'.heap[b]? = w.heap[b]?) (hs : w.heap.size ≤ w'.heap.size) (hA : ∀ b, b < w.heap.size → A' b → A b) (hM : MExt M M') : Rel w' A' M' v x := by
  induction h with
  | top v => exact .top v
  | bool b => exact .bool b
  | int k n => exact .int k n
  | str s => exact .str s
  | agg vs cs h hr ih => exact .agg vs cs h ih
  | nils => exact .nils
  | list0 a cap sz => exact .list0 a cap sz
  | list b off cap sz xs val ha hb hne hcap hsz hc hr ih =>
    exact .list b off cap sz xs val (fun h => ha (hA b hb h)) (Nat.lt_of_lt_of_le hb hs) hne hcap hsz (fun i j hi hj => by rw [cell?_of_heap (hw b hb ha)]; exact hc i j hi hj) ih
  | eptr b off sz xs i0 j0 val ha hb hi hsz hc hr ih =>
    exact .eptr b off sz xs i0 j0 val (fun h => ha (hA b hb h)) (Nat.lt_of_lt_of_le hb hs) hi hsz (fun i j hi hj => by rw [cell?_of_heap (hw b hb ha)]; exact hc i j hi hj) ih
  | own v id ver i j m hm hv h1 he =>
    obtain ⟨m', hm', e⟩ := hM id m hm
    rcases e with rfl | e
    · exact .own v id ver i j m' hm' hv h1 he
    · exact .own v id ver i j m' hm' (by omega) h1 (fun e' => by omega)
  | osl v id ver off len m hm hv h1 he =>
    obtain ⟨m', hm', e⟩ := hM id m hm
    rcases e with rfl | e
    · exact .osl v id ver off len m' hm' hv h1 he
    · exact .osl v id ver off len m' hm' (by omega) h1 (fun e' => by omega)
  | nilptr => exact .nilptr
  | func f vs cs h hr ih => exact .func f vs cs h ih
  | nilfn => exact .nilfn
  | tuple vs cs h hr ih => exact .tuple vs cs h ih
  | gptr g => exact .gptr g

section inv
variable {w : World} {A : Nat → Prop} {M : Nat → Option MB} {v : Value}

theorem Rel.bool_inv {b : Bool} (h : Rel w A M v (.bool b)) : v = .bool b := by cases h; rfl
theorem Rel.int_inv {k : IntKind} {n : Int} (h : Rel w A M v (.int k n)) : v = .int k n := by cases h; rfl
theorem Rel.str_inv {s : List UInt8} (h : Rel w A M v (.str s)) : ∃ t : ByteArray, v = .string t ∧ t.data.toList = s := by cases h; exact ⟨_, rfl, rfl⟩
theorem Rel.agg_inv {cs : List AV} (h : Rel w A M v (.agg cs)) : ∃ vs : Array Value, v = .agg vs ∧ vs.size = cs.length ∧ ∀ i, i < cs.length → Rel w A M (vs.getD i undef) (cs.getD i .top) := by
  cases h with | agg vs _ h hr => exact ⟨vs, rfl, h, hr⟩
theorem Rel.tuple_inv {cs : List AV} (h : Rel w A M v (.tuple cs)) : ∃ vs : Array Value, v = .tuple vs ∧ vs.size = cs.length ∧ ∀ i, i < cs.length → Rel w A M (vs.getD i undef) (cs.getD i .top) := by
  cases h with | tuple vs _ h hr => exact ⟨vs, rfl, h, hr⟩
theorem Rel.func_inv {f : FuncId} {cs : List AV} (h : Rel w A M v (.func f cs)) : ∃ vs : Array Value, v = .func (.func f) #[] vs ∧ vs.size = cs.length ∧ ∀ i, i < cs.length → Rel w A M (vs.getD i undef) (cs.getD i .top) := by
  cases h with | func _ vs _ h hr => exact ⟨vs, rfl, h, hr⟩

/-- The concrete cells of a value: as many as the abstract ones, each related. -/
theorem Rel.cells {x : AV} (h : Rel w A M v x) (hx : x.cells.all AV.one = true) : v.cells.size = x.cells.length ∧ ∀ i, i < x.cells.length → Rel w A M (v.cells.getD i undef) (x.cells.getD i .top) := by
  have key : ∀ (v : Value) (x : AV), Rel w A M v x → x.cells = [x] → v.oneCell' = true → v.cells.size = x.cells.length ∧ ∀ i, i < x.cells.length → Rel w A M (v.cells.getD i undef) (x.cells.getD i .top) := by
    intro v x h e1 e2
    have : v.cells = #[v] := by cases v <;> first | rfl | (simp [Value.oneCell'] at e2)
    rw [this, e1]
    refine ⟨rfl, fun i hi => ?_⟩
    have : i = 0 := by simpa using hi
    subst this
    exact h
  cases h with
  | top v => simp [AV.cells, AV.one] at hx
  | agg vs cs h hr => exact ⟨h, hr⟩
  | tuple vs cs h hr => simp [AV.cells, AV.one] at hx
  | bool b => exact key _ _ (.bool b) rfl rfl
  | int k n => exact key _ _ (.int k n) rfl rfl
  | str s => exact key _ _ (.str s) rfl rfl
  | nils => exact key _ _ .nils rfl rfl
  | list0 a cap sz => exact key _ _ (.list0 a cap sz) rfl rfl
  | list b off cap sz xs val ha hb hne hcap hsz hc hr => exact key _ _ (.list b off cap sz xs val ha hb hne hcap hsz hc hr) rfl rfl
  | eptr b off sz xs i0 j0 val ha hb hi hsz hc hr => exact key _ _ (.eptr b off sz xs i0 j0 val ha hb hi hsz hc hr) rfl rfl
  | own v id ver i j m hm hv h1 he => exact key _ _ (.own v id ver i j m hm hv h1 he) rfl h1
  | osl v id ver off len m hm hv h1 he => exact key _ _ (.osl v id ver off len m hm hv h1 he) rfl h1
  | nilptr => exact key _ _ .nilptr rfl rfl
  | func f vs cs h hr => exact key _ _ (.func f vs cs h hr) rfl rfl
  | nilfn => exact key _ _ .nilfn rfl rfl
  | gptr g => exact key _ _ (.gptr g) rfl rfl

theorem Rel.oneCell {x : AV} (h : Rel w A M v x) (hx : x.one = true) : v.oneCell' = true := by
  cases h <;> first | rfl | assumption | (simp [AV.one] at hx)
end inv

/-! ### Boxes of the call's own -/

structure Box where
  ver : Nat
  sz : Nat
  ty : TypeId
  xs : List AV
  frz : Bool

/-- One box as it lies in the world. -/
structure BoxAt (w : World) (A : Nat → Prop) (M : Nat → Option MB) (B : Nat) (m : MB) (bx : Box) : Prop where
  ver : bx.ver = m.ver
  sz : bx.sz = m.sz
  ty : bx.ty = m.ty
  capm : m.cap ≤ maxLen
  fits : bx.xs.length ≤ m.cap
  low : B ≤ m.b
  lt : m.b < w.heap.size
  ok : ∀ x, x ∈ bx.xs → x.okElem m.sz = true
  cells : ∃ c, w.heap[m.b]? = some (.cells c m.ty (0, 0)) ∧ c.size = m.cap * m.sz ∧
    ∀ i j, i < bx.xs.length → j < m.sz → Rel w A M (c.getD (i * m.sz + j) undef) ((bx.xs.getD i .top).cells.getD j .top)
  guard : bx.frz = false ↔ A m.b

structure HR (w : World) (A : Nat → Prop) (M : Nat → Option MB) (B : Nat) (H : List Box) : Prop where
  box : ∀ id m, M id = some m → ∃ bx, H[id]? = some bx ∧ BoxAt w A M B m bx
  inj : ∀ id id' m m', M id = some m → M id' = some m' → m.b = m'.b → id = id'
  lt : ∀ b, A b → b < w.heap.size

theorem BoxAt.mono {w w' : World} {A A' : Nat → Prop} {M M' : Nat → Option MB} {B : Nat} {m : MB} {bx : Box} (h : BoxAt w A M B m bx)
    (hb : w'.heap[m.b]? = w.heap[m.b]?) (hw : ∀ b, b < w.heap.size → ¬ A b → w'.heap[b]? = w.heap[b]?) (hs : w.heap.size ≤ w'.heap.size) (hA : ∀ b, b < w.heap.size → (A' b → A b)) (hg : bx.frz = false ↔ A' m.b) (hM : MExt M M') : BoxAt w' A' M' B m bx := by
  obtain ⟨c, h1, h2, h3⟩ := h.cells
  exact ⟨h.ver, h.sz, h.ty, h.capm, h.fits, h.low, Nat.lt_of_lt_of_le h.lt hs, h.ok, ⟨c, by rw [hb, h1], h2, fun i j hi hj => (h3 i j hi hj).mono hw hs hA hM⟩, hg⟩

/-- The world grows and nothing that was there turns. -/
theorem HR.grow {w w' : World} {A : Nat → Prop} {M : Nat → Option MB} {B : Nat} {H : List Box} (h : HR w A M B H) (hb : Below w.heap.size w w') : HR w' A M B H :=
  ⟨fun id m hm => by
    obtain ⟨bx, h1, h2⟩ := h.box id m hm
    exact ⟨bx, h1, h2.mono (hb.block _ h2.lt) (fun b hb' _ => hb.block b hb') hb.size (fun b _ h => h) h2.guard (MExt.refl M)⟩,
   h.inj, fun b hA => Nat.lt_of_lt_of_le (h.lt b hA) hb.size⟩

theorem Rel.grow {w w' : World} {A : Nat → Prop} {M : Nat → Option MB} {v : Value} {x : AV} (h : Rel w A M v x) (hb : Below w.heap.size w w') : Rel w' A M v x :=
  h.mono (fun b hb' _ => hb.block b hb') hb.size (fun b _ h => h) (MExt.refl M)

/-! ### What a type's row says -/

def avOf1 : Value → AV
  | .bool b => .bool b
  | .int k n => .int k n
  | .string s => .str s.data.toList
  | .pointer none => .nilptr
  | .slice none 0 0 => .nils
  | .nilFunc => .nilfn
  | _ => .top

def avOf : Value → AV
  | .agg cs => .agg (cs.toList.map avOf1)
  | v => avOf1 v

theorem rel_avOf1 (w : World) (A : Nat → Prop) (M : Nat → Option MB) (v : Value) : Rel w A M v (avOf1 v) := by
  unfold avOf1
  split
  · exact .bool _
  · exact .int _ _
  · exact .str _
  · exact .nilptr
  · exact .nils
  · exact .nilfn
  · exact .top _

theorem rel_avOf (w : World) (A : Nat → Prop) (M : Nat → Option MB) (v : Value) : Rel w A M v (avOf v) := by
  unfold avOf
  split
  · rename_i cs
    refine .agg _ _ (by simp) fun i hi => ?_
    have hi' : i < cs.size := by simpa using hi
    simp only [List.getD_eq_getElem?_getD, List.getElem?_map, Array.getElem?_toList, hi', Array.getElem?_eq_getElem, Option.map_some, Option.getD_some, Array.getD_eq_getD_getElem?]
    exact rel_avOf1 w A M _
  · exact rel_avOf1 w A M _

structure TI where
  sz : Nat
  bytes : Nat
  zero : AV
  agg : Bool
  d : TypeDesc

def isAggDesc : TypeDesc → Bool
  | .struct _ | .array _ _ => true
  | _ => false

/-- What the operations ask of a type. -/
def tinfo (P : Program) (t : TypeId) : Option TI :=
  match P.info? t, P.underlying t with
  | some i, some d =>
    match i.zero with
    | some z => some { sz := i.size, bytes := i.bytes, zero := avOf z, agg := isAggDesc d, d := d }
    | none => none
  | _, _ => none

theorem tinfo_spec {P : Program} {t : TypeId} {ti : TI} (h : tinfo P t = some ti) :
    ∃ i z, P.info? t = some i ∧ P.underlying t = some ti.d ∧ i.zero = some z ∧ ti.sz = i.size ∧ ti.bytes = i.bytes ∧ ti.zero = avOf z ∧ ti.agg = isAggDesc ti.d := by
  unfold tinfo at h
  split at h
  · rename_i i d hi hd
    split at h
    · rename_i z hz
      simp only [Option.some.injEq] at h
      subst h
      exact ⟨i, z, hi, hd, hz, rfl, rfl, rfl, rfl⟩
    · simp at h
  · simp at h

section runs
variable {P : Program} {t : TypeId} {ti : TI}
theorem run_und (h : tinfo P t = some ti) (w : World) : (underlying t).run P w = .ok ti.d w := by
  obtain ⟨i, z, h1, h2, _⟩ := tinfo_spec h
  exact run_underlying h2 w
theorem run_size (h : tinfo P t = some ti) (w : World) : (sizeOf t).run P w = .ok ti.sz w := by
  obtain ⟨i, z, h1, h2, _, h3, _⟩ := tinfo_spec h
  simp [sizeOf, typeInfo, h1, h3]
theorem run_bytes (h : tinfo P t = some ti) (w : World) : ∃ i, (typeInfo t).run P w = .ok i w ∧ i.bytes = ti.bytes ∧ i.size = ti.sz := by
  obtain ⟨i, z, h1, h2, _, h3, h4, _⟩ := tinfo_spec h
  exact ⟨i, by simp [typeInfo, h1], h4.symm, h3.symm⟩
theorem run_zero (h : tinfo P t = some ti) (w : World) : ∃ z, (zeroValue t).run P w = .ok z w ∧ ti.zero = avOf z := by
  obtain ⟨i, z, h1, h2, h5, h3, h4, h6, _⟩ := tinfo_spec h
  exact ⟨z, by simp [zeroValue, typeInfo, h1, h5], h6⟩
theorem run_agg (h : tinfo P t = some ti) (w : World) : (isAgg t).run P w = .ok ti.agg w := by
  obtain ⟨i, z, h1, h2, h5, h3, h4, h6, h7⟩ := tinfo_spec h
  rw [h7]
  unfold isAgg isAggDesc
  simp only [Sem.run_bind, run_und h, Result.andThen_ok]
  split <;> simp_all
end runs

end Go.Sim
