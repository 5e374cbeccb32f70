/- From a law's contract to its card: what is the same for every law of the seat. -/
import Derived.Test.YtpnibjljhfgjaaaGreatDoorCards
import Derived.Test.YtpnibjljhfgjaaaGreatDoorTie
import Derived.Test.YtpnibjljhfgjaaaGreatDoorLibR
import Derived.Test.YtpnibjljhfgjaaaGreatDoorTxt
import Derived.Test.YtpnibjljhfgjaaaGreatDoorOpen
import Derived.ChangeMaps5
import Derived.WalkKit
import Derived.ProofKit
import Derived.OpenShut
import Derived.Deep.DeepHandedRow
import Derived.Lib.LaidTab
import Derived.Stop.LaidErr
import Derived.Deep.DeepLaidRun
set_option maxRecDepth 10000
set_option linter.unusedVariables false
set_option linter.unusedSimpArgs false
namespace Go.Sim
open Go.RowKit Go.Proofs Go.ChangeShapes Go.WideShapes Go.ChangeAt

theorem low_of_shaped {P : Program} {w : World} (h : w.ShapedOpen P) (hg : P.globals.size < P.low) : P.low ≤ w.heap.size := by
  obtain ⟨o, o₀, h1, _, _⟩ := h.2 (P.low - 1) (by omega) (by unfold Program.low at hg ⊢; omega)
  rcases Nat.lt_or_ge (P.low - 1) w.heap.size with h' | h'
  · omega
  · rw [Array.getElem?_eq_none h'] at h1; simp at h1

/-- The cells of a plain datum. -/
def cellsOfData : DataW Unit → List Value
  | .lit (.int k n) => [.int k n]
  | .agg l => l.flatMap fun d => match d with
    | .lit (.int k n) => [.int k n]
    | .agg l' => l'.flatMap fun d' => match d' with
      | .lit (.int k n) => [.int k n]
      | _ => []
    | _ => []
  | _ => []

/-- The heap with listed variables' cells laid. -/
noncomputable def laidHeap (P : Program) : List (String × DataW Unit) → Array Obj → Array Obj
  | [], h => h
  | x :: r, h => laidHeap P r (match P.globalNamed x.1 with
    | some g => h.modify g fun o => match o with
      | .cells _ t frozen => .cells (cellsOfData x.2).toArray t frozen
      | o => o
    | none => h)

/-- A world in which listed variables hold what is listed. -/
noncomputable def laidWorld (P : Program) (laid : List (String × DataW Unit)) (os : Os) : World :=
  { World.holding P os ⟨#[], #[], []⟩ with heap := laidHeap P laid (World.holding P os ⟨#[], #[], []⟩).heap }

/-- THE LAW's POSTCONDITION, where the world has only grown. -/
theorem post_true {H : Type} {enc : TypeId × Value → H} {P : Program} {f : Func} {s : ChangeSpec} {W W' : World} {args : Array Value} {ds : List (DataW H)} {before : List MemPlace} {tb : TypeId} (hs : s.vars = [])
    (hW : DataW.Whole enc P f.params.toList s.vars false W args.toList ds [] before) (hfn : (s.fn H ds).results = [.lit (.bool true)] ∧ (s.fn H ds).args = ds ∧ (s.fn H ds).vars = []) (hrt : f.resultTypes = #[tb]) (htb : P.underlying tb = some .bool)
    (hargs : DataW.TrodAll enc P W' 0 (fun b => decide (b < W.heap.size)) true f.params.toList args.toList ds before) (hb : Below W.heap.size W W') : s.post enc P f false true false false W args (.bool true) W' := by
  refine ⟨ds, [], before, [], before, [], hW, ?_, ?_, ?_, hb.frame _, fun h => by simp at h⟩
  · simp only [List.append_nil, hfn.1, hrt]
    exact trodAll_cons_mk (shut_bool htb _) trodAll_mk0
  · simpa [hfn.2.1] using hargs
  · simp only [List.append_nil, hfn.2.2, hs]; rfl

theorem TrodAll_below {H : Type} {enc : TypeId × Value → H} {P : Program} {W W' : World} (hl : laidOutB P = true) (hb : Below W.heap.size W W') : ∀ {ts : List TypeId} {vs : List Value} {ds : List (DataW H)} {ps : List MemPlace}, (ts.all fun t => P.readableRec t && decide (t < P.types.size)) = true →
    DataW.TrodAll enc P W 0 (fun _ => true) true ts vs ds ps → DataW.TrodAll enc P W' 0 (fun b => decide (b < W.heap.size)) true ts vs ds ps
  | [], vs, ds, ps, _, h => by
    obtain ⟨rfl, rfl, rfl⟩ := trodAll_nil h
    exact trodAll_mk0
  | t :: ts, vs, ds, ps, ht, h => by
    have hlt := h.lt
    obtain ⟨v, vs', d, ds', p, q, rfl, rfl, rfl, hd, hr⟩ := trodAll_cons h
    simp only [List.all_cons, Bool.and_eq_true, decide_eq_true_eq] at ht
    exact trodAll_cons_mk (Below.trod hl ht.1.1 ht.1.2 hd hb fun x hx => hlt x (by simp [hx])) (TrodAll_below hl hb ht.2 hr)

/-! ### Arguments, one by one -/
section
variable {H : Type} {enc : TypeId × Value → H} {P : Program} {w : World} {base b n : Nat} {sp : Nat → Bool} {held : Bool} {v : Value} {d : DataW H} {ps : List MemPlace} {t : TypeId}

theorem open_cell {T : Ty} (hf : flat P n t = some [T]) (hv : v.cells = #[v]) (hd : DataW.Trod enc P w b sp held t v d ps) : ∃ a, Rel w (fun _ => False) noBox v a ∧ OfTy T a ∧ ∀ μ : DataW H → Nat, Meas μ → a.wt ≤ μ d := by
  obtain ⟨fuel, hf'⟩ := hd
  rw [hv] at hf'
  obtain ⟨ra, ha, hw⟩ := open_flat n t [T] hf fuel _ _ hf'
  cases ha with
  | cons h ht r => cases r with
    | nil => exact ⟨_, h, ht, fun μ hμ => by simpa [AV.wts] using hw μ hμ⟩

theorem open_sl {e : TypeId} {es : List Ty} (ht : P.underlying t = some (.slice e)) (hf : flat P n t = some [.slice es]) (hval : Value.okWide P w .any base t v) (hd : DataW.Trod enc P w b sp held t v d ps) : ∃ a, Rel w (fun _ => False) noBox v a ∧ OfTy (.slice es) a ∧ ∀ μ : DataW H → Nat, Meas μ → a.wt ≤ μ d := by
  obtain ⟨x, len, cap, rfl⟩ := okWide_slice ht hval
  exact open_cell hf rfl hd

theorem open_in {k : IntKind} (ht : P.underlying t = some (.int k)) (hval : Value.okWide P w .any base t v) (hd : DataW.Trod enc P w b sp held t v d ps) : ∃ m, Rel w (fun _ => False) noBox v (.int k m) ∧ (Lit.int k m).wf = true ∧ ∀ μ : DataW H → Nat, Meas μ → (AV.int k m).wt ≤ μ d := by
  obtain ⟨m, rfl⟩ := okWide_int ht hval
  obtain ⟨a, h, hT, hB⟩ := open_cell (n := 1) (T := .int k) (by simp [flat, ht]) rfl hd
  cases hT with
  | int _ m' hw => obtain rfl : m' = m := by cases h; rfl
                   exact ⟨m', h, hw, hB⟩

theorem view_list {α : Type} {e : α → AV} {wf : α → Prop} {es : List Ty} (hv : ∀ x : AV, x.cells.length = es.length → x = elemOf x.cells → (∀ j, j < es.length → OfTy (es.getD j .bool) (x.cells.getD j .top)) → ∃ a, x = e a ∧ wf a) {x : AV} (h : OfTy (.slice es) x) :
    ∃ l : List α, x = .list es.length (l.map e) ∧ l.length ≤ maxLen ∧ ∀ a, a ∈ l → wf a := by
  cases h with
  | slice _ xs hn hl hx =>
    have : ∀ xs : List AV, (∀ x, x ∈ xs → ∃ a, x = e a ∧ wf a) → ∃ l : List α, xs = l.map e ∧ ∀ a, a ∈ l → wf a := by
      intro xs
      induction xs with
      | nil => exact fun _ => ⟨[], rfl, fun a h => by simp at h⟩
      | cons x xs ih =>
        intro h
        obtain ⟨a, rfl, ha⟩ := h x (by simp)
        obtain ⟨l, rfl, hl⟩ := ih fun y hy => h y (by simp [hy])
        exact ⟨a :: l, rfl, fun b hb => (List.mem_cons.1 hb).elim (fun he => he ▸ ha) (fun hb => hl b hb)⟩
    obtain ⟨l, rfl, hw⟩ := this xs fun x hx' => hv x (hl x hx').1 (hl x hx').2 (fun j hj => hx x j hx' hj)
    exact ⟨l, rfl, by simpa using hn, hw⟩
end

end Go.Sim

namespace Go.Sim
open Go.RowKit Go.Proofs Go.ChangeShapes Go.WideShapes Go.ChangeAt Go.Proofs.YtpnibjljhfgjaaaGreatDoor

theorem laidTryz : laidOutB Tryz.prog = true := by kernel_rfl

theorem ownTryz : ownKnob Tryz.prog.godebug = none := by kernel_rfl

theorem lowTryz : Tryz.prog.globals.size < Tryz.prog.low := of_decide_eq_true (by kernel_rfl)

noncomputable def pow10Global : Nat := (Tryz.prog.globalNamed "internal/strconv.uint64pow10").getD 0

theorem pow10_tab : Rows.laid_internal_strconv_uint64pow10 = (Lib.tabData .u64 Lib.pow10Tab : DataW Unit) := by kernel_rfl

/-- What every law of the seat begins with. -/
theorem inv_of {W : World} {r : List (String × DataW Unit)} {a b c d : String × DataW Unit} (hl : r = [a, b, ("internal/strconv.uint64pow10", Rows.laid_internal_strconv_uint64pow10), c, d]) (hp : (r.all fun x => x.2.handleName?.isNone) = true) (hL : laidMetH Tryz.prog r W) (hsh : W.ShapedOpen Tryz.prog) : ITryz W := by
  rw [MakeChecks.laidMetH_plain _ _ _ hp] at hL
  subst hl
  refine ⟨hsh, low_of_shaped hsh lowTryz, ?_⟩
  have h := hL.tail.tail
  rw [pow10_tab] at h
  exact Lib.tabIs_of_head (g := pow10Global) (t := (Tryz.prog.globals[pow10Global]?).map (·.type) |>.getD 0) (e := 120) (n := 20) (by kernel_rfl) (by kernel_rfl) (by kernel_rfl) (by kernel_rfl) (by kernel_rfl) (by kernel_rfl) h

/-! ### The views of this seat's types -/
namespace M
/-- A fact, a column, a version, a violation, a result. -/
structure Fct where
  row : Row
  f : Int
  t : Int
structure Col where
  name : List UInt8
  kind : Int
  nl : Bool
structure Ver where
  id : Int
  sch : Int
  row : Row
  f : Int
  t : Int
  sf : Int
  st : Int
  by' : Int
  un : Int
structure Viol where
  k : Int
  tb : List UInt8
  ix : Int
  r : Row
  f : Int
  t : Int
structure Res where
  c : List Col
  fs : List Fct
  n : Int
  tm : Int
def encF (x : Fct) : AV := .agg [.list 3 (x.row.map encV), .int .i64 x.f, .int .i64 x.t]
def encC (x : Col) : AV := .agg [.str x.name, .int .i64 x.kind, .bool x.nl]
def encW (x : Ver) : AV := .agg [.int .i64 x.id, .int .i64 x.sch, .list 3 (x.row.map encV), .int .i64 x.f, .int .i64 x.t, .int .i64 x.sf, .int .i64 x.st, .int .i64 x.by', .int .i64 x.un]
def I64 (n : Int) : Prop := (Lit.int .i64 n).wf = true
def Fct.wf (x : Fct) : Prop := x.row.wf ∧ I64 x.f ∧ I64 x.t
def Col.wf (x : Col) : Prop := x.name.length ≤ maxLen
def Ver.wf (x : Ver) : Prop := I64 x.id ∧ x.row.wf ∧ I64 x.f ∧ I64 x.t ∧ I64 x.sf ∧ I64 x.st ∧ I64 x.by' ∧ I64 x.un
def Viol.wf (x : Viol) : Prop := x.r.wf ∧ x.tb.length ≤ maxLen ∧ I64 x.k ∧ I64 x.ix ∧ I64 x.f ∧ I64 x.t
def Res.wf (x : Res) : Prop := (x.c.length ≤ maxLen ∧ ∀ y, y ∈ x.c → y.wf) ∧ (x.fs.length ≤ maxLen ∧ ∀ y, y ∈ x.fs → y.wf) ∧ I64 x.n ∧ I64 x.tm
end M

def tyV : List Ty := [.int .i64, .int .i64, .str]
def tyF : List Ty := [.slice tyV, .int .i64, .int .i64]
def tyC : List Ty := [.str, .int .i64, .bool]
def tyW : List Ty := [.int .i64, .int .i64, .slice tyV, .int .i64, .int .i64, .int .i64, .int .i64, .int .i64, .int .i64]
theorem flat_viol : flat Tryz.prog 9 38 = some [.int .i64, .str, .int .i64, .slice tyV, .int .i64, .int .i64] := by kernel_rfl
theorem flat_res : flat Tryz.prog 9 25 = some [.slice tyC, .slice tyF, .int .i64, .int .i64] := by kernel_rfl
theorem flat_cols : flat Tryz.prog 9 22 = some [.slice tyC] := by kernel_rfl
theorem flat_vers : flat Tryz.prog 9 41 = some [.slice tyW] := by kernel_rfl

theorem view_val (x : AV) (hl : x.cells.length = tyV.length) (he : x = elemOf x.cells) (hx : ∀ j, j < tyV.length → OfTy (tyV.getD j .bool) (x.cells.getD j .top)) : ∃ a, x = M.encV a ∧ M.Val.wf a := by
  generalize x.cells = cs at *
  match cs, hl with
  | [c0, c1, c2], _ =>
    have h0 := hx 0 (by decide)
    have h1 := hx 1 (by decide)
    have h2 := hx 2 (by decide)
    change OfTy (.int .i64) c0 at h0
    change OfTy (.int .i64) c1 at h1
    change OfTy .str c2 at h2
    cases h0 with
    | int _ k hk => cases h1 with
      | int _ i hi => cases h2 with
        | str t ht => exact ⟨⟨k, i, t⟩, he, hk, hi, ht⟩

theorem view_row {x : AV} (h : OfTy (.slice tyV) x) : ∃ l : M.Row, x = M.encR l ∧ M.Row.wf l := by
  obtain ⟨l, rfl, h1, h2⟩ := view_list view_val h
  exact ⟨l, rfl, h1, h2⟩


theorem view_fct (x : AV) (hl : x.cells.length = tyF.length) (he : x = elemOf x.cells) (hx : ∀ j, j < tyF.length → OfTy (tyF.getD j .bool) (x.cells.getD j .top)) : ∃ a, x = M.encF a ∧ M.Fct.wf a := by
  generalize x.cells = cs at *
  match cs, hl with
  | [c0, c1, c2], _ =>
    have h0 := hx 0 (by decide)
    have h1 := hx 1 (by decide)
    have h2 := hx 2 (by decide)
    change OfTy (.slice tyV) c0 at h0
    change OfTy (.int .i64) c1 at h1
    change OfTy (.int .i64) c2 at h2
    obtain ⟨l, rfl, hw⟩ := view_row h0
    cases h1 with
    | int _ k hk => cases h2 with
      | int _ i hi => exact ⟨⟨l, k, i⟩, he, hw, hk, hi⟩

theorem view_col (x : AV) (hl : x.cells.length = tyC.length) (he : x = elemOf x.cells) (hx : ∀ j, j < tyC.length → OfTy (tyC.getD j .bool) (x.cells.getD j .top)) : ∃ a, x = M.encC a ∧ M.Col.wf a := by
  generalize x.cells = cs at *
  match cs, hl with
  | [c0, c1, c2], _ =>
    have h0 := hx 0 (by decide)
    have h1 := hx 1 (by decide)
    have h2 := hx 2 (by decide)
    change OfTy .str c0 at h0
    change OfTy (.int .i64) c1 at h1
    change OfTy .bool c2 at h2
    cases h0 with
    | str t ht => cases h1 with
      | int _ k hk => cases h2 with
        | bool b => exact ⟨⟨t, k, b⟩, he, ht⟩

theorem view_ver (x : AV) (hl : x.cells.length = tyW.length) (he : x = elemOf x.cells) (hx : ∀ j, j < tyW.length → OfTy (tyW.getD j .bool) (x.cells.getD j .top)) : ∃ a, x = M.encW a ∧ M.Ver.wf a := by
  generalize x.cells = cs at *
  match cs, hl with
  | [c0, c1, c2, c3, c4, c5, c6, c7, c8], _ =>
    have h0 := hx 0 (by decide)
    have h1 := hx 1 (by decide)
    have h2 := hx 2 (by decide)
    have h3 := hx 3 (by decide)
    have h4 := hx 4 (by decide)
    have h5 := hx 5 (by decide)
    have h6 := hx 6 (by decide)
    have h7 := hx 7 (by decide)
    have h8 := hx 8 (by decide)
    change OfTy (.int .i64) c0 at h0
    change OfTy (.int .i64) c1 at h1
    change OfTy (.slice tyV) c2 at h2
    change OfTy (.int .i64) c3 at h3
    change OfTy (.int .i64) c4 at h4
    change OfTy (.int .i64) c5 at h5
    change OfTy (.int .i64) c6 at h6
    change OfTy (.int .i64) c7 at h7
    change OfTy (.int .i64) c8 at h8
    obtain ⟨l, rfl, hw⟩ := view_row h2
    cases h0 with
    | int _ n0 w0 => cases h1 with
      | int _ n1 w1 => cases h3 with
        | int _ n3 w3 => cases h4 with
          | int _ n4 w4 => cases h5 with
            | int _ n5 w5 => cases h6 with
              | int _ n6 w6 => cases h7 with
                | int _ n7 w7 => cases h8 with
                  | int _ n8 w8 => exact ⟨⟨n0, n1, l, n3, n4, n5, n6, n7, n8⟩, he, w0, hw, w3, w4, w5, w6, w7, w8⟩

section
variable {H : Type} {enc : TypeId × Value → H} {w : World} {base b : Nat} {sp : Nat → Bool} {held : Bool} {v : Value} {d : DataW H} {ps : List MemPlace}

theorem open_agg {P : Program} {t : TypeId} {n : Nat} {Ts : List Ty} {fs : Array Field} (ht : P.underlying t = some (.struct fs)) (hf : flat P n t = some Ts) (hval : Value.okWide P w .any base t v) (hd : DataW.Trod enc P w b sp held t v d ps) :
    ∃ cs : List AV, Rel w (fun _ => False) noBox v (.agg cs) ∧ cs.length = Ts.length ∧ (∀ j, j < Ts.length → OfTy (Ts.getD j .bool) (cs.getD j .top)) ∧ ∀ μ : DataW H → Nat, Meas μ → AV.wts cs ≤ μ d := by
  obtain ⟨vs, rfl, _⟩ := okWide_struct ht hval
  obtain ⟨fuel, hf'⟩ := hd
  obtain ⟨xs, ha, hw⟩ := open_flat n t Ts hf fuel _ _ hf'
  obtain ⟨l1, l2⟩ := ha.len
  have l1' : vs.size = Ts.length := by simpa [Value.cells] using l1
  refine ⟨xs, .agg vs xs (by omega) fun i hi => ?_, l2, fun j hj => (ha.get j hj).2, fun μ hμ => hw μ hμ⟩
  have := (ha.get i (by omega)).1
  simpa [Value.cells, List.getD_eq_getElem?_getD, Array.getD_eq_getD_getElem?] using this

theorem open_viol (hval : Value.okWide Tryz.prog w .any base 38 v) (hd : DataW.Trod enc Tryz.prog w b sp held 38 v d ps) : ∃ a : M.Viol, Rel w (fun _ => False) noBox v (.agg [.int .i64 a.k, .str a.tb, .int .i64 a.ix, .list 3 (a.r.map M.encV), .int .i64 a.f, .int .i64 a.t]) ∧ (∀ μ : DataW H → Nat, Meas μ → (AV.agg [.int .i64 a.k, .str a.tb, .int .i64 a.ix, .list 3 (a.r.map M.encV), .int .i64 a.f, .int .i64 a.t]).wt ≤ μ d) ∧ a.wf := by
  obtain ⟨cs, h, hl, hx, hB⟩ := open_agg Tryz.underlying38 flat_viol hval hd
  match cs, hl with
  | [c0, c1, c2, c3, c4, c5], _ =>
    have h0 := hx 0 (by decide)
    have h1 := hx 1 (by decide)
    have h2 := hx 2 (by decide)
    have h3 := hx 3 (by decide)
    have h4 := hx 4 (by decide)
    have h5 := hx 5 (by decide)
    change OfTy (.int .i64) c0 at h0
    change OfTy .str c1 at h1
    change OfTy (.int .i64) c2 at h2
    change OfTy (.slice tyV) c3 at h3
    change OfTy (.int .i64) c4 at h4
    change OfTy (.int .i64) c5 at h5
    obtain ⟨l, rfl, hw⟩ := view_row h3
    cases h0 with
    | int _ n0 w0 => cases h1 with
      | str s1 w1 => cases h2 with
        | int _ n2 w2 => cases h4 with
          | int _ n4 w4 => cases h5 with
            | int _ n5 w5 => exact ⟨⟨n0, s1, n2, l, n4, n5⟩, h, fun μ hμ => hB μ hμ, hw, w1, w0, w2, w4, w5⟩

theorem open_res (hval : Value.okWide Tryz.prog w .any base 25 v) (hd : DataW.Trod enc Tryz.prog w b sp held 25 v d ps) : ∃ a : M.Res, Rel w (fun _ => False) noBox v (.agg [.list 3 (a.c.map M.encC), .list 3 (a.fs.map M.encF), .int .i64 a.n, .int .i64 a.tm]) ∧ (∀ μ : DataW H → Nat, Meas μ → (AV.agg [.list 3 (a.c.map M.encC), .list 3 (a.fs.map M.encF), .int .i64 a.n, .int .i64 a.tm]).wt ≤ μ d) ∧ a.wf := by
  obtain ⟨cs, h, hl, hx, hB⟩ := open_agg Tryz.underlying25 flat_res hval hd
  match cs, hl with
  | [c0, c1, c2, c3], _ =>
    have h0 := hx 0 (by decide)
    have h1 := hx 1 (by decide)
    have h2 := hx 2 (by decide)
    have h3 := hx 3 (by decide)
    change OfTy (.slice tyC) c0 at h0
    change OfTy (.slice tyF) c1 at h1
    change OfTy (.int .i64) c2 at h2
    change OfTy (.int .i64) c3 at h3
    obtain ⟨l, rfl, l1, lw⟩ := view_list (es := tyC) view_col h0
    obtain ⟨m, rfl, m1, mw⟩ := view_list (es := tyF) view_fct h1
    cases h2 with
    | int _ n2 w2 => cases h3 with
      | int _ n3 w3 => exact ⟨⟨l, m, n2, n3⟩, h, fun μ hμ => hB μ hμ, ⟨l1, lw⟩, ⟨m1, mw⟩, w2, w3⟩

theorem open_cols (hval : Value.okWide Tryz.prog w .any base 22 v) (hd : DataW.Trod enc Tryz.prog w b sp held 22 v d ps) : ∃ l : List M.Col, Rel w (fun _ => False) noBox v (.list 3 (l.map M.encC)) ∧ (∀ μ : DataW H → Nat, Meas μ → (AV.list 3 (l.map M.encC)).wt ≤ μ d) ∧ (l.length ≤ maxLen ∧ ∀ y, y ∈ l → y.wf) := by
  obtain ⟨a, h, hT, hB⟩ := open_sl Tryz.underlying22 flat_cols hval hd
  obtain ⟨l, rfl, hw⟩ := view_list (es := tyC) view_col hT
  exact ⟨l, h, hB, hw⟩
theorem open_vers (hval : Value.okWide Tryz.prog w .any base 41 v) (hd : DataW.Trod enc Tryz.prog w b sp held 41 v d ps) : ∃ l : List M.Ver, Rel w (fun _ => False) noBox v (.list 9 (l.map M.encW)) ∧ (∀ μ : DataW H → Nat, Meas μ → (AV.list 9 (l.map M.encW)).wt ≤ μ d) ∧ (l.length ≤ maxLen ∧ ∀ y, y ∈ l → y.wf) := by
  obtain ⟨a, h, hT, hB⟩ := open_sl Tryz.underlying41 flat_vers hval hd
  obtain ⟨l, rfl, hw⟩ := view_list (es := tyW) view_ver hT
  exact ⟨l, h, hB, hw⟩
end

theorem bulkAll_sum {H : Type} : ∀ l : List (DataW H), Rows.uptoBulkAll l = (l.map Rows.uptoBulk).sum
  | [] => rfl
  | d :: r => by simp [Rows.uptoBulkAll, bulkAll_sum r]
theorem meas_bulk {H : Type} : Meas (Rows.uptoBulk (H := H)) :=
  ⟨fun l => by cases l <;> simp [Rows.uptoBulk], fun s => by simp [Rows.uptoBulk], by simp [Rows.uptoBulk], fun es sp => by simp only [Rows.uptoBulk, bulkAll_sum]; omega, fun l => by simp only [Rows.uptoBulk, bulkAll_sum]; omega⟩
end Go.Sim
