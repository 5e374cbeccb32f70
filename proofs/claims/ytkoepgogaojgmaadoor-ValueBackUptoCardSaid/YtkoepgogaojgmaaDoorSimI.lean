/- Operations that write into boxes of the call's own: a store, an append. -/
import Derived.Test.YtkoepgogaojgmaaDoorSimH
import Derived.Laws.OwnMore
import Derived.Laws.Append
set_option linter.unusedVariables false
set_option linter.unusedSimpArgs false
set_option linter.unnecessarySimpa false
namespace Go.Sim
open Go.RowKit

/-- The elements of a slice. -/
def absElems (H : List Box) (sz : Nat) : AV → Option (List AV)
  | .nils => some []
  | .list sz' xs => if sz' = sz then some xs else none
  | .osl id ver off len => match getBox H id ver with
    | some bx => if bx.sz = sz ∧ off + len ≤ bx.xs.length then some ((bx.xs.drop off).take len) else none
    | none => none
  | _ => none

def putCells (e : AV) (j n sz : Nat) (v : AV) : AV := if j = 0 ∧ n = sz then v else .agg (e.cells.take j ++ v.cells ++ e.cells.drop (j + n))

def absAppend (P : Program) (H : List Box) (t : TypeId) (s x : AV) : Option (AV × List Box) :=
  match tinfo P t with
  | some ti => match ti.d with
    | .slice e => match tinfo P e with
      | some te => match absElems H te.sz x with
        | some ys => match s with
          | .nils => if ys.isEmpty = true then some (.nils, H) else
            if 0 < te.sz ∧ ys.length * te.bytes ≤ 140737488355328 ∧ ys.length ≤ strMax ∧ te.zero.okElem te.sz = true then some (.osl H.length 0 0 ys.length, H ++ [⟨0, te.sz, e, ys, false⟩]) else none
          | .osl id ver off len => match getBox H id ver with
            | some bx => if off = 0 ∧ len = bx.xs.length ∧ bx.frz = false ∧ bx.sz = te.sz ∧ bx.ty = e ∧ 0 < te.sz ∧ (len + ys.length) * te.bytes ≤ 140737488355328 ∧ len + ys.length ≤ strMax ∧ te.zero.okElem te.sz = true then
                some (.osl id (ver + 1) 0 (len + ys.length), H.set id ⟨ver + 1, te.sz, e, bx.xs ++ ys, false⟩) else none
            | none => none
          | _ => none
        | none => none
      | none => none
    | _ => none
  | none => none

def absStore (P : Program) (H : List Box) (t : TypeId) (a v : AV) : Option (List Box) :=
  match tinfo P t, a with
  | some ti, .own id ver i j => match getBox H id ver with
    | some bx => match bx.xs[i]? with
      | some e => if bx.frz = false ∧ v.okElem ti.sz = true ∧ j + ti.sz ≤ bx.sz then some (H.set id ⟨ver, bx.sz, bx.ty, bx.xs.set i (putCells e j ti.sz bx.sz v), false⟩) else none
      | none => none
    | none => none
  | _, _ => none

/-- An operation that writes into a box. -/
def iop (P : Program) (ρ : Operand → AV) (H : List Box) (op : Op) : Option (AV × List Box) :=
  match op with
  | .store t a v => match absStore P H t (ρ a) (ρ v) with
    | some H' => some (.tuple [], H')
    | none => none
  | .call c => match c.callee with
    | .builtin b => match b, c.argTypes.toList, c.args.toList with
      | .append, [t, t'], [s, x] => if t = t' then absAppend P H t (ρ s) (ρ x) else none
      | _, _, _ => none
    | _ => none
  | _ => none

theorem cells_agg (l : List AV) : (AV.agg l).cells = l := rfl

def splice (l : List Value) (o : Nat) (vs : List Value) : List Value := l.take o ++ vs ++ l.drop (o + vs.length)

theorem splice_getD {l : List Value} {o : Nat} {vs : List Value} (h : o + vs.length ≤ l.length) (k : Nat) :
    (splice l o vs).getD k undef = if o ≤ k ∧ k < o + vs.length then vs.getD (k - o) undef else l.getD k undef := by
  have h1 : min o l.length = o := by omega
  simp only [splice, List.append_assoc, List.getD_eq_getElem?_getD, List.getElem?_append, List.length_take, h1]
  by_cases hk : k < o
  · simp [hk, List.getElem?_take, show ¬ o ≤ k by omega]
  · by_cases hk2 : k < o + vs.length
    · simp [hk, show k - o < vs.length by omega, hk2, show o ≤ k by omega]
    · simp only [hk, if_false, show ¬ (k - o < vs.length) by omega, hk2, and_false, List.getElem?_drop]
      congr 2
      omega

theorem splice_length {l : List Value} {o : Nat} {vs : List Value} (h : o + vs.length ≤ l.length) : (splice l o vs).length = l.length := by
  simp [splice]; omega

section
variable {P : Program} {w : World} {A : Nat → Prop} {M : Nat → Option MB} {B : Nat} {H : List Box}

theorem getD_toArray (l : List Value) (k : Nat) : l.toArray.getD k undef = l.getD k undef := by simp [List.getD_eq_getElem?_getD, Array.getD_eq_getD_getElem?]

theorem getD_toList (c : Array Value) (k : Nat) : c.toList.getD k undef = c.getD k undef := by simp [List.getD_eq_getElem?_getD, Array.getD_eq_getD_getElem?]

def MSet (M : Nat → Option MB) (id : Nat) (m : MB) : Nat → Option MB := fun i => if i = id then some m else M i

theorem mext_set {id : Nat} {m m' : MB} (hm : M id = some m) (h : m' = m ∨ m.ver < m'.ver) : MExt M (MSet M id m') := fun i m1 h1 => by
  by_cases hi : i = id
  · subst hi
    rw [hm] at h1
    simp only [Option.some.injEq] at h1
    subst h1
    exact ⟨m', by simp [MSet], h⟩
  · exact ⟨m1, by simp [MSet, hi, h1], .inl rfl⟩

/-- The box's block is written in place. -/
theorem write_step (hR : HR w A M B H) {id : Nat} {m m' : MB} {bx bx' : Box} (hm : M id = some m) (hb : H[id]? = some bx) (hbat : BoxAt w A M B m bx) (hfz : bx.frz = false) {c' : Array Value}
    (e1 : m'.b = m.b) (e2 : m'.cap = m.cap) (e3 : m'.sz = m.sz) (e4 : m'.ty = m.ty) (e5 : m' = m ∨ m.ver < m'.ver) (f1 : bx'.ver = m'.ver) (f2 : bx'.sz = m'.sz) (f3 : bx'.ty = m'.ty) (f4 : bx'.frz = false)
    (hfit : bx'.xs.length ≤ m.cap) (hok : ∀ x, x ∈ bx'.xs → x.okElem m.sz = true) (hsz : c'.size = m.cap * m.sz)
    (hc : ∀ i j, i < bx'.xs.length → j < m.sz → Rel w A M (c'.getD (i * m.sz + j) undef) ((bx'.xs.getD i .top).cells.getD j .top)) :
    HR (w.setRow m.b c') A (MSet M id m') B (H.set id bx') ∧ MExt M (MSet M id m') ∧ (∀ b, b < w.heap.size → ¬ A b → (w.setRow m.b c').heap[b]? = w.heap[b]?) ∧ Below B w (w.setRow m.b c') ∧ A m.b := by
  have hAm : A m.b := hbat.guard.1 hfz
  have hext : MExt M (MSet M id m') := mext_set hm e5
  have hs : (w.setRow m.b c').heap.size = w.heap.size := by simp [World.setRow]
  have hw : ∀ b, b < w.heap.size → ¬ A b → (w.setRow m.b c').heap[b]? = w.heap[b]? := fun b _ hb => setRow_other w m.b b c' fun e => hb (e ▸ hAm)
  obtain ⟨c, h1, h2, h3⟩ := hbat.cells
  refine ⟨⟨?_, ?_, fun b hb => by rw [hs]; exact hR.lt b hb⟩, hext, hw, ⟨rfl, rfl, rfl, by rw [hs]; exact Nat.le_refl _, fun k hk => setRow_other w m.b k c' fun e => by have := hbat.low; omega⟩, hAm⟩
  · intro i m1 h1'
    have hlen : id < H.length := by
      rcases Nat.lt_or_ge id H.length with h' | h'
      · exact h'
      · rw [List.getElem?_eq_none h'] at hb; simp at hb
    by_cases hi : i = id
    · subst hi
      have : m1 = m' := by simp [MSet] at h1'; exact h1'.symm
      subst this
      refine ⟨bx', by simp [hlen], ⟨f1, f2, f3, by rw [e2]; exact hbat.capm, by rw [e2]; exact hfit, by rw [e1]; exact hbat.low, by rw [e1, hs]; exact hbat.lt, by rw [e3]; exact hok, ⟨c', by rw [e1, e4]; exact setRow_heap w m.b c c' m.ty (0, 0) h1, by rw [e2, e3]; exact hsz, ?_⟩, ⟨fun _ => by rw [e1]; exact hAm, fun _ => f4⟩⟩⟩
      intro i j hi hj
      rw [e3] at hj ⊢
      exact (hc i j hi hj).mono hw (by rw [hs]; exact Nat.le_refl _) (fun b _ h => h) hext
    · have hm2 : M i = some m1 := by simpa [MSet, hi] using h1'
      obtain ⟨bx2, g1, g2⟩ := hR.box i m1 hm2
      have hne : m1.b ≠ m.b := fun e => hi (hR.inj i id m1 m hm2 hm e)
      exact ⟨bx2, by rw [List.getElem?_set_ne (Ne.symm hi)]; exact g1, g2.mono (setRow_other w m.b m1.b c' hne) hw (by rw [hs]; exact Nat.le_refl _) (fun b _ h => h) g2.guard hext⟩
  · intro i i' m1 m2 h1' h2' he
    by_cases hi : i = id <;> by_cases hi' : i' = id
    · rw [hi, hi']
    · have g1 : m1 = m' := by simp [MSet, hi] at h1'; exact h1'.symm
      have g2 : M i' = some m2 := by simpa [MSet, hi'] using h2'
      rw [hi]
      exact hR.inj id i' m m2 hm g2 (by rw [← he, g1, e1])
    · have g1 : m2 = m' := by simp [MSet, hi'] at h2'; exact h2'.symm
      have g2 : M i = some m1 := by simpa [MSet, hi] using h1'
      rw [hi']
      exact hR.inj i id m1 m g2 hm (by rw [he, g1, e1])
    · exact hR.inj i i' m1 m2 (by simpa [MSet, hi] using h1') (by simpa [MSet, hi'] using h2') he

/-- What a step that writes leaves. -/
def Writes (P : Program) (o : Oper) (ρc : Operand → Value) (w : World) (A : Nat → Prop) (M : Nat → Option MB) (B : Nat) (x : AV) (H' : List Box) : Prop :=
  ∃ n w' A' M' v, (execOp ρc o).run P w = .ok n w' ∧ ((n = .value v) ∨ (n = .skip ∧ v = undef)) ∧ Below B w w' ∧ MExt M M' ∧ (∀ b, b < w.heap.size → (A' b ↔ A b)) ∧ (∀ b, b < w.heap.size → ¬ A b → w'.heap[b]? = w.heap[b]?) ∧ HR w' A' M' B H' ∧ Rel w' A' M' v x

theorem cells_one {v : Value} {x : AV} (h : Rel w A M v x) (hx : x.cells.all AV.one = true) : ∀ u, u ∈ v.cells.toList → u.oneCell' = true := by
  intro u hu
  obtain ⟨h1, h2⟩ := h.cells hx
  obtain ⟨i, hi, rfl⟩ := List.mem_iff_getElem.1 hu
  have hi' : i < x.cells.length := by simp at hi; omega
  have := h2 i hi'
  have e : v.cells.getD i undef = v.cells.toList[i] := by simp at hi; simp [hi]
  rw [e] at this
  refine this.oneCell ?_
  rw [List.all_eq_true] at hx
  exact hx _ (getD_mem hi')

theorem store_sound (hR : HR w A M B H) {o : Oper} {ρc : Operand → Value} {t : TypeId} {oa ov : Operand} {xa xv : AV} {H' : List Box} (ho : o.op = .store t oa ov) (ha : Rel w A M (ρc oa) xa) (hv : Rel w A M (ρc ov) xv) (h : absStore P H t xa xv = some H') :
    Writes P o ρc w A M B (.tuple []) H' := by
  unfold absStore at h
  split at h
  case h_2 => simp at h
  rename_i ti id ver i j hti
  split at h
  case h_2 => simp at h
  rename_i bx hbx
  split at h
  case h_2 => simp at h
  rename_i e he
  split at h
  case isFalse => simp at h
  rename_i hc0
  obtain ⟨hfz, hok, hle⟩ := hc0
  simp only [Option.some.injEq] at h; subst h
  obtain ⟨m, hm, hbat, hpa⟩ := own_at hR ha hbx
  obtain ⟨hb1, hb2⟩ := getBox_some hbx
  obtain ⟨c, h1, h2, h3⟩ := hbat.cells
  have hvl := okElem_len hok
  have hone := okElem_one hok
  have hcu := rc_cells hv hone
  have hvs : (ρc ov).cells.size = ti.sz := by have := hcu.1; simp at this; omega
  have hi : i < bx.xs.length := by
    rcases Nat.lt_or_ge i bx.xs.length with h' | h'
    · exact h'
    · simp [List.getElem?_eq_none h'] at he
  have hge : bx.xs.getD i .top = e := by simp [List.getD_eq_getElem?_getD, he]
  have hel := okElem_len (hbat.ok e (List.mem_of_getElem? he))
  have hsz := hbat.sz
  have hfitI : i * m.sz + m.sz ≤ c.size := by
    rw [h2]
    have : (i + 1) * m.sz ≤ m.cap * m.sz := Nat.mul_le_mul_right _ (Nat.le_trans hi hbat.fits)
    rw [Nat.add_mul, Nat.one_mul] at this
    exact this
  have hoff : i * m.sz + j + (ρc ov).cells.toList.length ≤ c.toList.length := by simp; omega
  have hput : (putCells e j ti.sz bx.sz xv).cells.length = m.sz ∧ (∀ k, k < m.sz → (putCells e j ti.sz bx.sz xv).cells.getD k .top = if j ≤ k ∧ k < j + ti.sz then xv.cells.getD (k - j) .top else e.cells.getD k .top) ∧ (putCells e j ti.sz bx.sz xv).cells.all AV.one = true := by
    unfold putCells
    split
    · rename_i hw
      obtain ⟨rfl, hw⟩ := hw
      exact ⟨by omega, fun k hk => by rw [if_pos (by omega)]; simp, hone⟩
    · have hmin : min j e.cells.length = j := by omega
      refine ⟨by rw [cells_agg]; simp; omega, fun k hk => ?_, ?_⟩
      · simp only [cells_agg, List.append_assoc, List.getD_eq_getElem?_getD, List.getElem?_append, List.length_take, hmin]
        by_cases hk1 : k < j
        · simp [hk1, List.getElem?_take, show ¬ j ≤ k by omega]
        · by_cases hk2 : k < j + ti.sz
          · simp [hk1, hvl, show k - j < ti.sz by omega, hk2, show j ≤ k by omega]
          · simp only [hk1, if_false, hvl, show ¬ (k - j < ti.sz) by omega, hk2, and_false, List.getElem?_drop]
            congr 2
            omega
      · have h5 := okElem_one (hbat.ok e (List.mem_of_getElem? he))
        rw [List.all_eq_true] at h5 hone
        simp only [cells_agg, List.all_append, Bool.and_eq_true, List.all_eq_true]
        exact ⟨⟨fun x hx => h5 x (List.mem_of_mem_take hx), hone⟩, fun x hx => h5 x (List.mem_of_mem_drop hx)⟩
  have hst := run_storeCells_at P m.b (i * m.sz + j) m.ty (ρc ov).cells.toList 0 c w h1 (by simp; omega) (cells_one hv hone)
  simp only [Nat.add_zero] at hst
  obtain ⟨g1, g2, g3, g4, g5⟩ := write_step (m' := m) (bx' := ⟨ver, bx.sz, bx.ty, bx.xs.set i (putCells e j ti.sz bx.sz xv), false⟩) hR hm hb1 hbat hfz (c' := (splice c.toList (i * m.sz + j) (ρc ov).cells.toList).toArray) rfl rfl rfl rfl (.inl rfl)
    (by rw [← hbat.ver, ← hb2]) hsz hbat.ty rfl (by simpa using hbat.fits)
    (fun x hx => by
      rcases List.mem_or_eq_of_mem_set hx with hx | rfl
      · exact hbat.ok x hx
      · simp only [AV.okElem, hput.1, beq_self_eq_true, Bool.true_and]; exact hput.2.2)
    (by have := splice_length hoff; simp at this ⊢; omega)
    (fun i' j' hi' hj' => by
      simp at hi'
      rw [getD_toArray, splice_getD hoff]
      have hsv : (ρc ov).cells.toList.length = ti.sz := by simpa using hvs
      by_cases hii : i' = i
      · subst hii
        have e1 : (bx.xs.set i' (putCells e j ti.sz bx.sz xv)).getD i' .top = putCells e j ti.sz bx.sz xv := by simp [List.getD_eq_getElem?_getD, hi']
        rw [e1, hput.2.1 j' hj', hsv]
        by_cases hin : j ≤ j' ∧ j' < j + ti.sz
        · rw [if_pos (by omega), if_pos hin, show i' * m.sz + j' - (i' * m.sz + j) = j' - j by omega]
          exact hcu.2 _ (by omega)
        · rw [if_neg (by omega), if_neg hin, getD_toList]
          have := h3 i' j' hi' hj'
          rwa [hge] at this
      · have e1 : (bx.xs.set i (putCells e j ti.sz bx.sz xv)).getD i' .top = bx.xs.getD i' .top := by simp [List.getD_eq_getElem?_getD, List.getElem?_set, show ¬ i = i' from fun h => hii h.symm]
        rw [e1, hsv, if_neg, getD_toList]
        · exact h3 i' j' hi' hj'
        · intro hin
          rcases Nat.lt_or_ge i' i with hlt | hge'
          · have : i' * m.sz + j' < i * m.sz := idx_lt hlt hj'
            omega
          · have h6 : (i + 1) * m.sz ≤ i' * m.sz := Nat.mul_le_mul_right _ (by omega)
            rw [Nat.add_mul, Nat.one_mul] at h6
            omega)
  refine ⟨.skip, _, A, _, undef, ?_, .inr ⟨rfl, rfl⟩, g4, g2, fun _ _ => Iff.rfl, g3, g1, .tuple #[] [] rfl (by simp)⟩
  simp only [execOp, ho, hpa, Instr.storeAt, Instr.sureAddr, storeVar, Sem.run_bind, Sem.run_pure, Result.andThen_ok, run_size hti, hvs, ne_eq, not_true, if_false]
  rw [hst]
  rfl

end
end Go.Sim
