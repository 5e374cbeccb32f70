/- Arguments as a law is handed them, opened: structs, slices, slices of slices of plain cells. By the type's own shape, once for all. -/
import Derived.Test.YtpnibjljhfgjaaaDoorSimT
import Derived.WalkKit
import Derived.ProofKit
import Derived.OpenShut
import Derived.Carry
import Derived.Deep.Slices
set_option linter.unusedVariables false
set_option linter.unusedSimpArgs false
namespace Go.Sim
open Go.RowKit Go.ChangeShapes Go.WideShapes Go.ChangeAt

/-- The cells of a type. -/
inductive Ty where
  | int (k : IntKind)
  | bool
  | str
  | slice (es : List Ty)

def flatFs (P : Program) (f : TypeId → Option (List Ty)) : Nat → List Field → Option (List Ty)
  | _, [] => some []
  | off, x :: r => match Nat.beq x.offset off with
    | true => match f x.type with
      | some l => match Nat.beq l.length (P.cellsOf x.type) with
        | true => match flatFs P f (off + l.length) r with
          | some m => some (l ++ m)
          | none => none
        | false => none
      | none => none
    | false => none

def flat (P : Program) : Nat → TypeId → Option (List Ty)
  | 0, _ => none
  | n + 1, t => match P.underlying t with
    | some (.int k) => some [.int k]
    | some .string => some [.str]
    | some .bool => some [.bool]
    | some (.slice e) => match flat P n e with
      | some es => match Nat.beq es.length (P.cellsOf e) && Nat.blt 0 es.length with
        | true => some [.slice es]
        | false => none
      | none => none
    | some (.struct fs) => match flatFs P (flat P n) 0 fs.toList with
      | some l => match Nat.beq l.length (P.cellsOf t) with
        | true => some l
        | false => none
      | none => none
    | _ => none

def elemOf : List AV → AV
  | [c] => c
  | cs => .agg cs

mutual
/-- How much an abstract value holds. -/
def AV.wt : AV → Nat
  | .str s => s.length + 1
  | .list _ xs => AV.wts xs + 1
  | .agg cs => AV.wts cs
  | _ => 1
def AV.wts : List AV → Nat
  | [] => 0
  | x :: xs => AV.wt x + AV.wts xs
end

theorem wts_append (a b : List AV) : AV.wts (a ++ b) = AV.wts a + AV.wts b := by
  induction a with
  | nil => simp [AV.wts]
  | cons x a ih => simp [AV.wts, ih]; omega

theorem wt_elemOf (a : List AV) : AV.wt (elemOf a) = AV.wts a := by
  match a with
  | [] => rfl
  | [c] => simp [elemOf, AV.wts]
  | x :: y :: r => rfl

theorem wts_map {n : Nat} {f : Nat → AV} {g : Nat → Nat} (h : ∀ i, i < n → AV.wt (f i) ≤ g i) : AV.wts ((List.range n).map f) ≤ ((List.range n).map g).sum := by
  induction n with
  | zero => simp [AV.wts]
  | succ n ih =>
    rw [List.range_succ, List.map_append, List.map_append, wts_append, List.sum_append]
    have := ih fun i hi => h i (by omega)
    have := h n (by omega)
    simp [AV.wts]; omega

/-- A measure of data. -/
structure Meas {H : Type} (μ : DataW H → Nat) : Prop where
  lit : ∀ l, 1 ≤ μ (.lit l)
  str : ∀ s, s.length + 1 ≤ μ (.lit (.string s))
  nil : 1 ≤ μ .nil
  slice : ∀ es sp, (es.map μ).sum + 1 ≤ μ (.slice es sp)
  agg : ∀ l, (l.map μ).sum ≤ μ (.agg l)

inductive OfTy : Ty → AV → Prop
  | int (k : IntKind) (n : Int) (h : (Lit.int k n).wf = true) : OfTy (.int k) (.int k n)
  | bool (b : Bool) : OfTy .bool (.bool b)
  | str (s : List UInt8) (h : s.length ≤ maxLen) : OfTy .str (.str s)
  | slice (es : List Ty) (xs : List AV) (h : xs.length ≤ maxLen) (hl : ∀ x, x ∈ xs → x.cells.length = es.length ∧ x = elemOf x.cells) (hx : ∀ x j, x ∈ xs → j < es.length → OfTy (es.getD j .bool) (x.cells.getD j .top)) : OfTy (.slice es) (.list es.length xs)

theorem OfTy.one {T : Ty} {x : AV} (h : OfTy T x) : x.one = true := by cases h <;> rfl

inductive Opens (w : World) : List Ty → List Value → List AV → Prop
  | nil : Opens w [] [] []
  | cons {T : Ty} {v : Value} {a : AV} {Ts vs as} (h : Rel w (fun _ => False) noBox v a) (ht : OfTy T a) (r : Opens w Ts vs as) : Opens w (T :: Ts) (v :: vs) (a :: as)

theorem Opens.append {w : World} {Ts Us : List Ty} {vs us as bs} (h : Opens w Ts vs as) (h' : Opens w Us us bs) : Opens w (Ts ++ Us) (vs ++ us) (as ++ bs) := by
  induction h with
  | nil => exact h'
  | cons h ht r ih => exact .cons h ht ih

theorem Opens.len {w : World} {Ts vs as} (h : Opens w Ts vs as) : vs.length = Ts.length ∧ as.length = Ts.length := by
  induction h with
  | nil => exact ⟨rfl, rfl⟩
  | cons h ht r ih => simp [ih.1, ih.2]

theorem Opens.get {w : World} {Ts vs as} (h : Opens w Ts vs as) : ∀ i, i < Ts.length → Rel w (fun _ => False) noBox (vs.getD i undef) (as.getD i .top) ∧ OfTy (Ts.getD i .bool) (as.getD i .top) := by
  induction h with
  | nil => intro i hi; simp at hi
  | cons h ht r ih =>
    intro i hi
    cases i with
    | zero => exact ⟨by simpa using h, by simpa using ht⟩
    | succ i => simpa using ih i (by simpa using hi)

theorem Opens.all_one {w : World} {Ts vs as} (h : Opens w Ts vs as) : as.all AV.one = true := by
  induction h with
  | nil => rfl
  | cons h ht r ih => simp [ht.one, ih]

theorem cells_elemOf {as : List AV} (h : as.all AV.one = true) (hne : 0 < as.length) : (elemOf as).cells = as := by
  match as, h, hne with
  | [c], h, _ => cases c <;> first | rfl | simp [AV.one] at h
  | a :: b :: r, _, _ => rfl

section
variable {H : Type} {enc : TypeId × Value → H} {P : Program} {w : World} {base : Nat} {sp : Nat → Bool} {held : Bool}

theorem open_fs {n : Nat} {f : TypeId → Option (List Ty)} (hf : ∀ t Ts, f t = some Ts → ∀ cs x, DataW.trod enc P w base sp held n t cs = some x → ∃ as, Opens w Ts cs as ∧ ∀ μ : DataW H → Nat, Meas μ → AV.wts as ≤ μ x.1) :
    ∀ (l : List Field) (off : Nat) (Ts : List Ty) (cs : List Value) (ys : List (DataW H × List MemPlace)), flatFs P f off l = some Ts → cs.length = Ts.length → ys.length = l.length → (∀ (i : Nat) (x : Field), l[i]? = some x → DataW.trod enc P w base sp held n x.type ((cs.drop (x.offset - off)).take (P.cellsOf x.type)) = ys[i]?) →
      ∃ as, Opens w Ts cs as ∧ ∀ μ : DataW H → Nat, Meas μ → AV.wts as ≤ (ys.map fun y => μ y.1).sum
  | [], off, Ts, cs, ys, h, hl, hyl, _ => by
    simp [flatFs] at h; subst h
    obtain rfl : cs = [] := List.eq_nil_of_length_eq_zero hl
    exact ⟨[], .nil, fun μ _ => by simp [AV.wts]⟩
  | x :: r, off, Ts, cs, [], h, hl, hyl, hx => by simp at hyl
  | x :: r, off, Ts, cs, y :: ys, h, hl, hyl, hx => by
    simp only [flatFs] at h
    split at h <;> try (simp at h; done)
    rename_i ho
    split at h <;> try (simp at h; done)
    rename_i l1 hl1
    split at h <;> try (simp at h; done)
    rename_i hn
    split at h <;> try (simp at h; done)
    rename_i m hm
    simp only [Option.some.injEq] at h; subst h
    have ho := Nat.eq_of_beq_eq_true ho
    have hn := Nat.eq_of_beq_eq_true hn
    simp only [List.length_append] at hl
    have hy := hx 0 x rfl
    rw [ho, Nat.sub_self, List.drop_zero, ← hn, List.getElem?_cons_zero] at hy
    obtain ⟨as, ha, hwa⟩ := hf _ _ hl1 _ _ hy
    -- the offsets of the rest lie behind
    have hge : ∀ (l : List Field) (o : Nat) (m : List Ty), flatFs P f o l = some m → ∀ z, z ∈ l → o ≤ z.offset := by
      intro l
      induction l with
      | nil => intro o m _ z hz; simp at hz
      | cons z0 l ih =>
        intro o m h z hz
        simp only [flatFs] at h
        split at h <;> try (simp at h; done)
        rename_i ho'
        split at h <;> try (simp at h; done)
        split at h <;> try (simp at h; done)
        split at h <;> try (simp at h; done)
        rename_i hm'
        have ho' := Nat.eq_of_beq_eq_true ho'
        rcases List.mem_cons.1 hz with rfl | hz
        · omega
        · exact Nat.le_trans (by omega) (ih _ _ hm' z hz)
    obtain ⟨bs, hb, hwb⟩ := open_fs hf r (off + l1.length) m (cs.drop l1.length) ys hm (by rw [List.length_drop]; omega) (by simpa using hyl) (fun i z hz => by
      have hy' := hx (i + 1) z (by simpa using hz)
      have := hge _ _ _ hm z (List.mem_of_getElem? hz)
      rw [List.drop_drop, show l1.length + (z.offset - (off + l1.length)) = z.offset - off by omega]
      simpa using hy')
    refine ⟨as ++ bs, ?_, fun μ hμ => ?_⟩
    · have := ha.append hb
      rwa [List.take_append_drop] at this
    · have h1 := hwa μ hμ
      have h2 := hwb μ hμ
      simp only [List.map_cons, List.sum_cons, wts_append]; omega

theorem open_flat : ∀ (n : Nat) (t : TypeId) (Ts : List Ty), flat P n t = some Ts → ∀ (fuel : Nat) (cs : List Value) x, DataW.trod enc P w base sp held fuel t cs = some x → ∃ as, Opens w Ts cs as ∧ ∀ μ : DataW H → Nat, Meas μ → AV.wts as ≤ μ x.1
  | 0, _, _, h, _, _, _, _ => by simp [flat] at h
  | n + 1, t, Ts, h, fuel, cs, x, hd => by
    simp only [flat] at h
    split at h
    · rename_i k ht
      simp only [Option.some.injEq] at h; subst h
      obtain ⟨m, rfl, rfl, hw⟩ := DataW.trod_int ht hd
      exact ⟨[.int k m], .cons (.int k m) (.int k m hw) .nil, fun μ hμ => by have := hμ.lit (.int k m); simpa [AV.wts, AV.wt] using this⟩
    · rename_i ht
      simp only [Option.some.injEq] at h; subst h
      obtain ⟨s, rfl, rfl, hw⟩ := DataW.trod_string ht hd
      exact ⟨[.str s.data.toList], .cons (.str s) (.str _ (by simpa using hw)) .nil, fun μ hμ => by have := hμ.str s.data.toList; simpa [AV.wts, AV.wt] using this⟩
    · rename_i ht
      simp only [Option.some.injEq] at h; subst h
      obtain ⟨b, rfl, rfl⟩ := DataW.trod_bool ht hd
      exact ⟨[.bool b], .cons (.bool b) (.bool b) .nil, fun μ hμ => by have := hμ.lit (.bool b); simpa [AV.wts, AV.wt] using this⟩
    · rename_i e ht
      split at h <;> try (simp at h; done)
      rename_i es hes
      split at h <;> try (simp at h; done)
      rename_i hc
      simp only [Option.some.injEq] at h; subst h
      simp only [Bool.and_eq_true] at hc
      have hc1 := Nat.eq_of_beq_eq_true hc.1
      have hc2 : 0 < es.length := by simpa using hc.2
      rcases Deep.open_slice ht hd with ⟨rfl, rfl⟩ | ⟨a, len, cap, m, n', D, Pl, rfl, hb, hl, hm, hmm, rfl, hx⟩
      · exact ⟨[.list es.length []], .cons (.list0 _ _ _) (.slice es [] (by simp) (fun x hx => by simp at hx) (fun x j hx => by simp at hx)) .nil, fun μ hμ => by have := hμ.nil; simpa [AV.wts, AV.wt] using this⟩
      · have hlm : len ≤ m := by subst hmm; split <;> omega
        have hex : ∀ i, i < len → ∃ p : List Value × List AV, w.cells? base (a.add (i * P.cellsOf e)) (P.cellsOf e) = some p.1 ∧ Opens w es p.1 p.2 ∧ ∀ μ : DataW H → Nat, Meas μ → AV.wts p.2 ≤ μ (D i) := fun i hi => by
          obtain ⟨cs', h1, h2⟩ := hx i (by omega)
          obtain ⟨as, ha, hw⟩ := open_flat n e es hes _ _ _ h2
          exact ⟨(cs', as), h1, ha, hw⟩
        obtain ⟨f, hf⟩ := Deep.choose_lt (α := List Value × List AV) hex
        have hlen : ((List.range len).map fun i => elemOf (f i).2).length = len := by simp
        have hget : ∀ i, i < len → ((List.range len).map fun i => elemOf (f i).2).getD i .top = elemOf (f i).2 := fun i hi => by simp [List.getD, hi]
        have hcl : ∀ i, i < len → (elemOf (f i).2).cells = (f i).2 := fun i hi => cells_elemOf (hf i hi).2.1.all_one (by rw [(hf i hi).2.1.len.2]; exact hc2)
        have hof : OfTy (.slice es) (.list es.length ((List.range len).map fun i => elemOf (f i).2)) := by
          refine .slice es _ (by rw [hlen]; omega) (fun x hx => ?_) (fun x j hx hj => ?_)
          · obtain ⟨i, hi, rfl⟩ := List.mem_map.1 hx
            have hi := List.mem_range.1 hi
            rw [hcl i hi]
            exact ⟨(hf i hi).2.1.len.2, rfl⟩
          · obtain ⟨i, hi, rfl⟩ := List.mem_map.1 hx
            have hi := List.mem_range.1 hi
            rw [hcl i hi]
            exact ((hf i hi).2.1.get j hj).2
        refine ⟨[_], .cons ?_ hof .nil, fun μ hμ => by
          have h1 := hμ.slice ((List.range len).map D) ((List.range (m - len)).map fun j => D (len + j))
          have h2 := wts_map (n := len) (f := fun i => elemOf (f i).2) (g := fun i => μ (D i)) fun i hi => by rw [wt_elemOf]; exact (hf i hi).2.2 μ hμ
          rw [List.map_map] at h1
          change ((List.range len).map fun i => μ (D i)).sum + 1 ≤ _ at h1
          simp only [AV.wts, AV.wt]
          exact Nat.le_trans (by omega) h1⟩
        rcases Nat.eq_zero_or_pos len with rfl | hpos
        · exact .list0 _ _ _
        · -- some cell was read: the address has no spot, the block is there
          have h0 := World.cells?_some (hf 0 hpos).1
          have hc0 := h0.2.2 0 (by omega)
          rw [show (f 0).1[0]? = some ((f 0).1.getD 0 undef) by
            rw [List.getElem?_eq_getElem (by rw [h0.2.1]; omega)]; simp [List.getD, h0.2.1, ← hc1, hc2]] at hc0
          have hsp : a.spot = none ∧ a.block < w.heap.size := by
            unfold World.cell? at hc0
            have e1 : (a.add (0 * P.cellsOf e)).add 0 = a := by simp [Addr.add]
            rw [e1] at hc0
            split at hc0
            · rename_i c _ _ hbk
              split at hc0
              · simp at hc0
              · rename_i hns
                exact ⟨by simpa using hns, (Array.getElem?_eq_some_iff.1 hbk).1⟩
            · simp at hc0
          obtain ⟨blk, off, spt⟩ := a
          obtain ⟨rfl, hblk⟩ := hsp
          have := Rel.list (w := w) (A := fun _ => False) (M := noBox) blk off cap es.length ((List.range len).map fun i => elemOf (f i).2) (fun i j => (f i).1.getD j undef) (fun h => h) hblk (fun h => by
              have := congrArg List.length h; simp at this; omega) (by rw [hlen]; exact hl) (fun x hx => by
              obtain ⟨i, hi, rfl⟩ := List.mem_map.1 hx
              have hi := List.mem_range.1 hi
              simp only [AV.okElem, hcl i hi, (hf i hi).2.1.all_one, (hf i hi).2.1.len.2, Bool.and_true, beq_self_eq_true]) (fun i j hi hj => by
              rw [hlen] at hi
              have hh := World.cells?_some (hf i hi).1
              have := hh.2.2 j (by omega)
              rw [Deep.add_add] at this
              have e2 : (⟨blk, off, none⟩ : Addr).add (i * P.cellsOf e + j) = ⟨blk, off + i * es.length + j, none⟩ := by
                rw [← hc1]; unfold Addr.add; split
                · rename_i h0; simp [Nat.add_assoc, h0]
                · simp [Nat.add_assoc]
              rw [e2] at this
              rw [this, List.getElem?_eq_getElem (by rw [hh.2.1]; omega)]
              simp [List.getD, hh.2.1, ← hc1, hj]) (fun i j hi hj => by
              rw [hlen] at hi
              rw [hget i hi, hcl i hi]
              exact ((hf i hi).2.1.get j hj).1)
          rwa [hlen] at this
    · rename_i fs ht
      split at h <;> try (simp at h; done)
      rename_i l hl
      split at h <;> try (simp at h; done)
      rename_i hn
      simp only [Option.some.injEq] at h; subst h
      have hn := Nat.eq_of_beq_eq_true hn
      obtain ⟨xs, m, rfl, hx, hlen, hfl, hfs⟩ := DataW.trod_struct ht hd
      obtain ⟨as, ha, hw⟩ := open_fs (n := m) (fun t' Ts' h' cs' x' hd' => open_flat n t' Ts' h' m cs' x' hd') fs.toList 0 l cs xs hl (by rw [hlen, hn]) (by simpa using hfl) (fun i z hz => by
        have := hfs i z (by simpa using hz)
        simpa using this)
      refine ⟨as, ha, fun μ hμ => Nat.le_trans (hw μ hμ) ?_⟩
      have := hμ.agg (xs.map (·.1))
      rw [hx]
      simpa [List.map_map, Function.comp_def] using this
    · simp at h
end
end Go.Sim
