/- The abstract operations of the library (those that write nothing), and that each says what the model's operation does. -/
import Derived.Test.YtkoepgogaojgmaaDoorSimA
import Derived.Laws.MakeOwn
set_option linter.unusedVariables false
set_option linter.unusedSimpArgs false
set_option linter.unnecessarySimpa false
namespace Go.Sim
open Go.RowKit

def getBox (H : List Box) (id ver : Nat) : Option Box :=
  match H[id]? with
  | some bx => if bx.ver = ver then some bx else none
  | none => none

def absLoad (ti : TI) (sz : Nat) (x : AV) (j : Nat) : Option AV :=
  if j + ti.sz ≤ sz then
    if ti.agg = true then some (.agg ((x.cells.drop j).take ti.sz))
    else if ti.sz = 1 then some (x.cells.getD j .top) else none
  else none

/-- A value read through a pointer. -/
def absLoadAt (H : List Box) (ti : TI) : AV → Option AV
  | .eptr sz xs i j => match xs[i]? with | some x => absLoad ti sz x j | none => none
  | .own id ver i j => match getBox H id ver with
    | some bx => match bx.xs[i]? with | some x => absLoad ti bx.sz x j | none => none
    | none => none
  | _ => none

inductive SK where
  | int
  | str
  | bool

def planF (P : Program) : List Field → Option (List (Nat × SK))
  | [] => some []
  | f :: fs =>
    if f.name = "_" then none else
    match tinfo P f.type, planF P fs with
    | some ti, some r => match ti.d with
      | .int _ => some ((f.offset, .int) :: r)
      | .string => some ((f.offset, .str) :: r)
      | .bool => some ((f.offset, .bool) :: r)
      | _ => none
    | _, _ => none

def eqPlan (P : Program) (t : TypeId) : Option (List (Nat × SK)) :=
  if P.stoodInHeld t || P.eqGuardType P.depth t then none else
  match P.underlying t with
  | some (.struct fs) => planF P fs.toList
  | _ => none

def eqSK : SK → AV → AV → Option Bool
  | .int, .int k a, .int k' b => if k = k' then some (a == b) else none
  | .str, .str a, .str b => some (a == b)
  | .bool, .bool a, .bool b => some (a == b)
  | _, _, _ => none

def eqCells : List (Nat × SK) → List AV → List AV → Option Bool
  | [], _, _ => some true
  | (o, s) :: r, xs, ys =>
    match eqSK s (xs.getD o .top) (ys.getD o .top), eqCells r xs ys with
    | some a, some b => some (a && b)
    | _, _ => none

def strMax : Nat := 2 ^ 62

def absInt (op : BinOp) (k : IntKind) (a b : Int) : Option AV :=
  match op with
  | .add => some (.int k (k.wrap (a + b)))
  | .sub => some (.int k (k.wrap (a - b)))
  | .mul => some (.int k (k.wrap (a * b)))
  | .quo => if b = 0 then none else some (.int k (k.wrap (a.tdiv b)))
  | .rem => if b = 0 then none else some (.int k (a.tmod b))
  | .eql => some (.bool (a == b))
  | .neq => some (.bool (a != b))
  | .lss => some (.bool (decide (a < b)))
  | .leq => some (.bool (decide (a ≤ b)))
  | .gtr => some (.bool (decide (a > b)))
  | .geq => some (.bool (decide (a ≥ b)))
  | _ => none

def absStr (op : BinOp) (a b : List UInt8) : Option AV :=
  match op with
  | .add => if a.length + b.length ≤ strMax then some (.str (a ++ b)) else none
  | .eql => some (.bool (a == b))
  | .neq => some (.bool (!(a == b)))
  | .lss => some (.bool (Op.bytesLess a b))
  | .leq => some (.bool (Op.bytesLess a b || a == b))
  | .gtr => some (.bool (!(Op.bytesLess a b || a == b)))
  | .geq => some (.bool (!(Op.bytesLess a b)))
  | _ => none

def absBin (P : Program) (op : BinOp) (t : TypeId) (x y : AV) : Option AV :=
  match x, y with
  | .int k a, .int k' b => if k = k' then absInt op k a b else none
  | .str a, .str b => absStr op a b
  | .bool a, .bool b => match tinfo P t with
    | some ti => match ti.d, op with
      | .bool, .eql => some (.bool (a == b))
      | .bool, .neq => some (.bool (!(a == b)))
      | _, _ => none
    | none => none
  | .agg xs, .agg ys => match eqPlan P t with
    | some pl => match eqCells pl xs ys, op with
      | some r, .eql => some (.bool r)
      | some r, .neq => some (.bool (!r))
      | _, _ => none
    | none => none
  | _, _ => none

/-- Parts laid into cells, one after the other (a struct). -/
def absFill (place : Nat → Option (Nat × Nat)) (cs : List AV) : List (Nat × AV) → Option (List AV)
  | [] => some cs
  | (i, v) :: rest =>
    match place i with
    | none => none
    | some (off, size) =>
      if v.okElem size = true ∧ off + size ≤ cs.length then absFill place (cs.take off ++ v.cells ++ cs.drop (off + size)) rest else none

/-- Parts laid into elements (a slice). -/
def absSet (sz : Nat) (xs : List AV) : List (Nat × AV) → Option (List AV)
  | [] => some xs
  | (i, v) :: rest => if i < xs.length ∧ v.okElem sz = true then absSet sz (xs.set i v) rest else none

def placesOf (P : Program) : List Field → Option (List (Nat × Nat))
  | [] => some []
  | f :: fs => match tinfo P f.type, placesOf P fs with
    | some ti, some r => some ((f.offset, ti.sz) :: r)
    | _, _ => none

def absBuild (P : Program) (t : TypeId) (parts : List (Nat × AV)) : Option AV :=
  match tinfo P t with
  | some ti => match ti.d, ti.zero with
    | .struct fs, .agg z => match placesOf P fs.toList with
      | some pl => match absFill (fun i => pl[i]?) z parts with
        | some cs => some (.agg cs)
        | none => none
      | none => none
    | _, _ => none
  | none => none

def absB (x : Option AV) (dflt len : Nat) : Option Nat :=
  match x with
  | none => some dflt
  | some (.int _ n) => if 0 ≤ n ∧ n ≤ (len : Int) then some n.toNat else none
  | some _ => none

def absBounds (lo hi : Option AV) (len : Nat) : Option (Nat × Nat) :=
  match absB hi len len with
  | none => none
  | some h => match absB lo 0 h with
    | none => none
    | some l => some (l, h)

def absSlice (P : Program) (H : List Box) (t : TypeId) (x : AV) (lo hi : Option AV) : Option AV :=
  match tinfo P t with
  | some ti => match ti.d, x with
    | .string, .str s => match absBounds lo hi s.length with
      | some (l, h) => some (.str ((s.drop l).take (h - l)))
      | none => none
    | .slice e, .list sz xs => match tinfo P e with
      | some te => if te.sz = sz then match absBounds lo hi xs.length with
        | some (l, h) => some (.list sz ((xs.drop l).take (h - l)))
        | none => none else none
      | none => none
    | .slice e, .nils => match tinfo P e with
      | some _ => match absBounds lo hi 0 with
        | some _ => some .nils
        | none => none
      | none => none
    | .slice e, .osl id ver off len => match tinfo P e, getBox H id ver with
      | some te, some bx => if te.sz = bx.sz then match absBounds lo hi len with
        | some (l, h) => some (.osl id ver (off + l) (h - l))
        | none => none else none
      | _, _ => none
    | _, _ => none
  | none => none

def absIndexAddr (P : Program) (H : List Box) (t : TypeId) (x ix : AV) : Option AV :=
  match tinfo P t, ix with
  | some ti, .int _ n => match ti.d, x with
    | .slice e, .list sz xs => match tinfo P e with
      | some te => if te.sz = sz ∧ 0 ≤ n ∧ n < (xs.length : Int) then some (.eptr sz xs n.toNat 0) else none
      | none => none
    | .slice e, .osl id ver off len => match tinfo P e, getBox H id ver with
      | some te, some bx => if te.sz = bx.sz ∧ 0 ≤ n ∧ n < (len : Int) then some (.own id ver (off + n.toNat) 0) else none
      | _, _ => none
    | .array m e, .own id ver i j => match tinfo P e, getBox H id ver with
      | some te, some bx => if 0 ≤ n ∧ n < (m : Int) then some (.own id ver i (j + n.toNat * te.sz)) else none
      | _, _ => none
    | .array m e, .eptr sz xs i j => match tinfo P e with
      | some te => if 0 ≤ n ∧ n < (m : Int) then some (.eptr sz xs i (j + n.toNat * te.sz)) else none
      | none => none
    | _, _ => none
  | _, _ => none

def absFieldAddr (P : Program) (H : List Box) (t : TypeId) (x : AV) (f : Nat) : Option AV :=
  match tinfo P t with
  | some ti => match ti.d with
    | .struct fs => match fs[f]? with
      | some fd => match tinfo P fd.type with
        | some tf => if tf.sz = 0 then none else match x with
          | .eptr sz xs i j => some (.eptr sz xs i (j + fd.offset))
          | .own id ver i j => match getBox H id ver with
            | some _ => some (.own id ver i (j + fd.offset))
            | none => none
          | _ => none
        | none => none
      | none => none
    | _ => none
  | none => none

def absPart (ti : TI) (cs : List AV) (off : Nat) : Option AV :=
  if ti.agg = true then (if off + ti.sz ≤ cs.length then some (.agg ((cs.drop off).take ti.sz)) else none)
  else if off < cs.length then some (cs.getD off .top) else none

def absField (P : Program) (t : TypeId) (x : AV) (f : Nat) : Option AV :=
  match tinfo P t, x with
  | some ti, .agg cs => match ti.d with
    | .struct fs => match fs[f]? with
      | some fd => match tinfo P fd.type with
        | some tf => absPart tf cs fd.offset
        | none => none
      | none => none
    | _ => none
  | _, _ => none

def absIndex (P : Program) (t : TypeId) (x ix : AV) : Option AV :=
  match tinfo P t, ix with
  | some ti, .int _ n => match ti.d, x with
    | .string, .str s => if 0 ≤ n ∧ n < (s.length : Int) then some (.int .u8 ((s.getD n.toNat 0).toNat)) else none
    | .array m e, .agg cs => match tinfo P e with
      | some te => if 0 ≤ n ∧ n < (m : Int) then absPart te cs (n.toNat * te.sz) else none
      | none => none
    | _, _ => none
  | _, _ => none

def absLen (P : Program) (H : List Box) (t : TypeId) (x : AV) : Option AV :=
  match tinfo P t with
  | some ti => match ti.d, x with
    | .string, .str s => some (.int .i64 s.length)
    | .slice _, .list _ xs => some (.int .i64 xs.length)
    | .slice _, .nils => some (.int .i64 0)
    | .slice _, .osl id ver _ len => match getBox H id ver with
      | some _ => some (.int .i64 len)
      | none => none
    | _, _ => none
  | none => none

def absMin : AV → List AV → Option AV
  | x, [] => some x
  | .int k x, .int k' y :: rest => absMin (.int k (if y < x then y else x)) rest
  | _, _ => none

def absMax : AV → List AV → Option AV
  | x, [] => some x
  | .int k x, .int k' y :: rest => absMax (.int k (if y > x then y else x)) rest
  | _, _ => none

def absUn (op : UnOp) (x : AV) : Option AV :=
  match op, x with
  | .not, .bool b => some (.bool (!b))
  | .neg, .int k n => some (.int k (k.wrap (0 - n)))
  | _, _ => none

def absConv (P : Program) (s d : TypeId) (x : AV) : Option AV :=
  match tinfo P s, tinfo P d with
  | some _, some td => match td.d, x with
    | .int k, .int _ n => some (.int k (k.wrap n))
    | .string, .str l => some (.str l)
    | _, _ => none
  | _, _ => none

def absMake (P : Program) (nid : Nat) (t : TypeId) (l c : AV) : Option (AV × Option Box) :=
  match tinfo P t, l, c with
  | some ti, .int _ l, .int _ c => match ti.d with
    | .slice e => match tinfo P e with
      | some te => if 0 ≤ l ∧ l ≤ c ∧ (te.bytes : Int) * c ≤ 281474976710656 ∧ c ≤ 4611686018427387904 ∧ te.zero.okElem te.sz = true then
          some (.osl nid 0 0 l.toNat, some ⟨0, te.sz, e, List.replicate l.toNat te.zero, false⟩) else none
      | none => none
    | _ => none
  | _, _, _ => none

/-- An operation that writes nothing: its value, and the box that it lays (under the number 'nid'). -/
def fop (P : Program) (ρ : Operand → AV) (H : List Box) (nid : Nat) (op : Op) : Option (AV × Option Box) :=
  match op with
  | .move x | .assign x => some (ρ x, none)
  | .pick c a b => match ρ c with
    | .bool t => some (if t = true then ρ a else ρ b, none)
    | _ => none
  | .alloc e => match tinfo P e with
    | some ti => if ti.zero.okElem ti.sz = true then some (.own nid 0 0 0, some ⟨0, ti.sz, e, [ti.zero], false⟩) else none
    | none => none
  | .box e x => if (ρ x).cells.all AV.one = true then some (.own nid 0 0 0, some ⟨0, (ρ x).cells.length, e, [ρ x], false⟩) else none
  | .build t parts => match absBuild P t (parts.toList.map fun p => (p.1, ρ p.2)) with
    | some r => some (r, none)
    | none => none
  | .buildSlice t len parts => match tinfo P t with
    | some ti => match ti.d with
      | .slice e => match tinfo P e with
        | some te => if len * te.sz ≤ 16777216 ∧ 0 < te.sz ∧ te.zero.okElem te.sz = true then
            match absSet te.sz (List.replicate len te.zero) (parts.toList.map fun p => (p.1, ρ p.2)) with
            | some xs => some (.osl nid 0 0 len, some ⟨0, te.sz, e, xs, false⟩)
            | none => none else none
        | none => none
      | _ => none
    | none => none
  | .load t a => match tinfo P t with
    | some ti => match absLoadAt H ti (ρ a) with
      | some x => some (x, none)
      | none => none
    | none => none
  | .nilCheck x => match ρ x with
    | .eptr sz xs i j => some (.eptr sz xs i j, none)
    | .own id ver i j => match getBox H id ver with
      | some _ => some (.own id ver i j, none)
      | none => none
    | .func f cs => some (.func f cs, none)
    | _ => none
  | .binOp op t x y _ => match absBin P op t (ρ x) (ρ y) with
    | some r => some (r, none)
    | none => none
  | .unOp op _ x => match absUn op (ρ x) with
    | some r => some (r, none)
    | none => none
  | .convert s d x => match absConv P s d (ρ x) with
    | some r => some (r, none)
    | none => none
  | .makeFunc fn first captured => match fn with
    | .func f => if first = #[] then some (.func f (captured.toList.map ρ), none) else none
    | _ => none
  | .makeSlice t l c => absMake P nid t (ρ l) (ρ c)
  | .slice t x lo hi mx => match mx with
    | none => match absSlice P H t (ρ x) (lo.map ρ) (hi.map ρ) with
      | some r => some (r, none)
      | none => none
    | some _ => none
  | .fieldAddr t x f => match absFieldAddr P H t (ρ x) f with
    | some r => some (r, none)
    | none => none
  | .field t x f => match absField P t (ρ x) f with
    | some r => some (r, none)
    | none => none
  | .indexAddr t x ix => match absIndexAddr P H t (ρ x) (ρ ix) with
    | some r => some (r, none)
    | none => none
  | .index t x ix => match absIndex P t (ρ x) (ρ ix) with
    | some r => some (r, none)
    | none => none
  | .extract x i => match ρ x with
    | .tuple vs => match vs[i]? with
      | some v => some (v, none)
      | none => none
    | _ => none
  | .call c => match c.callee with
    | .builtin b => match b, c.argTypes.toList, c.args.toList.map ρ with
      | .len, t :: _, [x] => match absLen P H t x with
        | some r => some (r, none)
        | none => none
      | .min, _, x :: rest => match absMin x rest with
        | some r => some (r, none)
        | none => none
      | .max, _, x :: rest => match absMax x rest with
        | some r => some (r, none)
        | none => none
      | _, _, _ => none
    | _ => none
  | _ => none

end Go.Sim
