/- Handing values on to a callee: boxes of the call's own that are read from then on as slices that nobody writes. -/
import Derived.Test.YtpnibjljhfgjaaaDoorSim1
import Derived.Laws.OwnMore
import Derived.Laws.Append
import Derived.Laws.AppendOwn
import Derived.Lib.AppendStr
import Derived.Tactics
import Derived.LoopN
set_option linter.unusedVariables false
set_option linter.unusedSimpArgs false
set_option linter.unnecessarySimpa false
namespace Go.Sim
open Go.RowKit

mutual
/-- No memory stands behind it. -/
def AV.flat : AV → Bool
  | .agg cs => AV.flats cs
  | .list _ _ => false
  | .eptr _ _ _ _ => false
  | .own _ _ _ _ => false
  | .osl _ _ _ _ => false
  | .func _ cs => AV.flats cs
  | .tuple vs => AV.flats vs
  | .top => true
  | .bool _ => true
  | .int _ _ => true
  | .str _ => true
  | .nils => true
  | .nilptr => true
  | .nilfn => true
  | .gptr _ => true
def AV.flats : List AV → Bool
  | [] => true
  | x :: xs => AV.flat x && AV.flats xs
end

theorem flats_eq : ∀ xs : List AV, AV.flats xs = xs.all AV.flat
  | [] => by simp [AV.flats]
  | x :: xs => by simp [AV.flats, flats_eq xs]

theorem flats_getD {xs : List AV} (h : AV.flats xs = true) (i : Nat) : (xs.getD i .top).flat = true := by
  rw [flats_eq, List.all_eq_true] at h
  by_cases hi : i < xs.length
  · simp only [List.getD_eq_getElem?_getD, List.getElem?_eq_getElem hi, Option.getD_some]; exact h _ (List.getElem_mem _)
  · simp [List.getD_eq_getElem?_getD, List.getElem?_eq_none (Nat.le_of_not_lt hi), AV.flat]

theorem Rel.flat {w w' : World} {A A' : Nat → Prop} {M M' : Nat → Option MB} {v : Value} {x : AV} (h : Rel w A M v x) : x.flat = true → Rel w' A' M' v x := by
  induction h generalizing M' with
  | top v => intro _; exact .top v
  | bool b => intro _; exact .bool b
  | int k n => intro _; exact .int k n
  | str s => intro _; exact .str s
  | agg vs cs h hr ih => intro hp; exact .agg vs cs h fun i hi => ih i hi (flats_getD (by simpa [AV.flat] using hp) i)
  | nils => intro _; exact .nils
  | list0 a cap sz => intro _; exact .list0 a cap sz
  | list b off cap sz xs val ha hb hne hcap hsz hc hr ih => intro hp; simp [AV.flat] at hp
  | eptr b off sz xs i0 j0 val ha hb hi hsz hc hr ih => intro hp; simp [AV.flat] at hp
  | own v id ver i j m hm hv h1 he => intro hp; simp [AV.flat] at hp
  | osl v id ver off len m hm hv h1 he => intro hp; simp [AV.flat] at hp
  | nilptr => intro _; exact .nilptr
  | func f vs cs h hr ih => intro hp; exact .func f vs cs h fun i hi => ih i hi (flats_getD (by simpa [AV.flat] using hp) i)
  | nilfn => intro _; exact .nilfn
  | tuple vs cs h hr ih => intro hp; exact .tuple vs cs h fun i hi => ih i hi (flats_getD (by simpa [AV.flat] using hp) i)
  | gptr g => intro _; exact .gptr g

/-! ### Boxes read as slices -/

def mapO (r : AV → Option AV) : List AV → Option (List AV)
  | [] => some []
  | x :: xs => match r x, mapO r xs with
    | some y, some ys => some (y :: ys)
    | _, _ => none

def resE (r : AV → Option AV) : AV → Option AV
  | .agg cs => match mapO r cs with
    | some ds => some (.agg ds)
    | none => none
  | x => r x

def mapE (pm : Bool) (r : AV → Option AV) (xs : List AV) : Option (List AV) := if pm = true then some xs else mapO (resE r) xs

/-- The value as a callee may have it. -/
def resolve (H : List Box) : Nat → AV → Option AV
  | 0, x => if x.pure = true then some x else none
  | n + 1, x => if x.pure = true then some x else
    match x with
    | .agg cs => match mapO (resolve H n) cs with | some ds => some (.agg ds) | none => none
    | .func f cs => match mapO (resolve H n) cs with | some ds => some (.func f ds) | none => none
    | .own id ver i j => match getBox H id ver with
      | some bx => match mapE bx.pm (resolve H n) bx.xs with
        | some ys => if i < bx.xs.length then some (.eptr bx.sz ys i j) else none
        | none => none
      | none => none
    | .osl id ver off len => match getBox H id ver with
      | some bx => match mapE bx.pm (resolve H n) ((bx.xs.drop off).take len) with
        | some ys => if off + len ≤ bx.xs.length then some (.list bx.sz ys) else none
        | none => none
      | none => none
    | _ => none

/-- The boxes that a value reaches. -/
def reach (H : List Box) : Nat → AV → List Nat
  | 0, _ => []
  | n + 1, x => if x.pure = true then [] else
    match x with
    | .agg cs => cs.flatMap (reach H n)
    | .func _ cs => cs.flatMap (reach H n)
    | .own id _ _ _ => id :: (match H[id]? with | some bx => if bx.pm = true then [] else bx.xs.flatMap fun (e : AV) => e.cells.flatMap (reach H n) | none => [])
    | .osl id _ off len => id :: (match H[id]? with | some bx => if bx.pm = true then [] else ((bx.xs.drop off).take len).flatMap fun (e : AV) => e.cells.flatMap (reach H n) | none => [])
    | _ => []

theorem getD_mem {xs : List AV} {i : Nat} (hi : i < xs.length) : xs.getD i .top ∈ xs := by
  simp only [List.getD_eq_getElem?_getD, List.getElem?_eq_getElem hi, Option.getD_some]; exact List.getElem_mem _

theorem reach_pure {H : List Box} {n : Nat} {x : AV} (h : x.pure = true) : reach H n x = [] := by
  cases n with
  | zero => rfl
  | succ n => unfold reach; rw [if_pos h]

theorem mapO_spec {r : AV → Option AV} : ∀ {xs ys : List AV}, mapO r xs = some ys → ys.length = xs.length ∧ ∀ i, i < xs.length → r (xs.getD i .top) = some (ys.getD i .top)
  | [], ys, h => by simp [mapO] at h; subst h; simp
  | x :: xs, ys, h => by
    unfold mapO at h
    split at h
    · rename_i y zs h1 h2
      simp only [Option.some.injEq] at h; subst h
      obtain ⟨e1, e2⟩ := mapO_spec h2
      refine ⟨by simp [e1], fun i hi => ?_⟩
      cases i with
      | zero => simpa using h1
      | succ i => have := e2 i (by simp at hi; omega); simpa using this
    · simp at h

theorem mapO_getD {r : AV → Option AV} {xs ys : List AV} (h : mapO r xs = some ys) {i : Nat} (hi : i < xs.length) : r (xs.getD i .top) = some (ys.getD i .top) := (mapO_spec h).2 i hi

/-- Cells of a resolved element. -/
theorem resE_cells {H : List Box} {n : Nat} {x y : AV} (h : resE (resolve H n) x = some y) (hx : x.cells.all AV.one = true) :
    y.cells.length = x.cells.length ∧ ∀ j, j < x.cells.length → resolve H n (x.cells.getD j .top) = some (y.cells.getD j .top) := by
  have key : ∀ x y : AV, x.cells = [x] → x.one = true → resolve H n x = some y → y.cells.length = x.cells.length ∧ ∀ j, j < x.cells.length → resolve H n (x.cells.getD j .top) = some (y.cells.getD j .top) := by
    intro x y hc h1 hr
    have hy : y.cells = [y] := by
      cases n with
      | zero =>
        unfold resolve at hr
        split at hr
        · simp only [Option.some.injEq] at hr; subst hr; exact hc
        · simp at hr
      | succ n =>
        unfold resolve at hr
        split at hr
        · simp only [Option.some.injEq] at hr; subst hr; exact hc
        · split at hr <;> first
            | (simp [AV.one] at h1; done)
            | (simp at hr; done)
            | (split at hr
               · simp only [Option.some.injEq] at hr; subst hr; rfl
               · simp at hr)
            | (split at hr
               · split at hr
                 · split at hr
                   · simp only [Option.some.injEq] at hr; subst hr; rfl
                   · simp at hr
                 · simp at hr
               · simp at hr)
    rw [hc, hy]
    refine ⟨rfl, fun j hj => ?_⟩
    have : j = 0 := by simpa using hj
    subst this
    exact hr
  cases x with
  | agg cs =>
    simp only [resE] at h
    split at h
    · rename_i ds hds
      simp only [Option.some.injEq] at h; subst h
      exact ⟨(mapO_spec hds).1, fun j hj => mapO_getD hds hj⟩
    · simp at h
  | top => simp [AV.cells, AV.one] at hx
  | tuple vs => simp [AV.cells, AV.one] at hx
  | _ => exact key _ _ rfl (by simpa [AV.cells] using hx) h

theorem resolve_one {H : List Box} {n : Nat} {x y : AV} (h : resolve H n x = some y) (hx : x.one = true) : y.one = true := by
  cases n with
  | zero =>
    unfold resolve at h
    split at h
    · simp only [Option.some.injEq] at h; subst h; exact hx
    · simp at h
  | succ n =>
    unfold resolve at h
    split at h
    · simp only [Option.some.injEq] at h; subst h; exact hx
    · split at h <;> first
        | (simp [AV.one] at hx; done)
        | (simp at h; done)
        | (split at h
           · simp only [Option.some.injEq] at h; subst h; rfl
           · simp at h)
        | (split at h
           · split at h
             · split at h
               · simp only [Option.some.injEq] at h; subst h; rfl
               · simp at h
             · simp at h
           · simp at h)

theorem resolve_pure {H : List Box} {n : Nat} {x : AV} (h : x.pure = true) : resolve H n x = some x := by
  cases n <;> simp [resolve, h]

/-- A resolved list of elements: each cell resolved. -/
theorem mapE_cells {H : List Box} {n sz : Nat} {pm : Bool} {xs ys : List AV} (h : mapE pm (resolve H n) xs = some ys) (hok : ∀ x, x ∈ xs → x.okElem sz = true) :
    ys.length = xs.length ∧ (∀ y, y ∈ ys → y.okElem sz = true) ∧ (pm = true → ys = xs) ∧ (¬ pm = true → ∀ i j, i < xs.length → j < sz → resolve H n ((xs.getD i .top).cells.getD j .top) = some ((ys.getD i .top).cells.getD j .top)) := by
  unfold mapE at h
  split at h
  · rename_i hp
    simp only [Option.some.injEq] at h; subst h
    exact ⟨rfl, hok, fun _ => rfl, fun h => absurd hp h⟩
  · rename_i hnp
    obtain ⟨h1, h2⟩ := mapO_spec h
    have at_ : ∀ i, i < xs.length → xs.getD i .top ∈ xs := fun i hi => by
      simp only [List.getD_eq_getElem?_getD, List.getElem?_eq_getElem hi, Option.getD_some]; exact List.getElem_mem _
    have cell : ∀ i, i < xs.length → (ys.getD i .top).cells.length = sz ∧ ∀ j, j < sz → resolve H n ((xs.getD i .top).cells.getD j .top) = some ((ys.getD i .top).cells.getD j .top) := by
      intro i hi
      have hk := hok _ (at_ i hi)
      obtain ⟨e1, e2⟩ := resE_cells (h2 i hi) (okElem_one hk)
      have hl := okElem_len hk
      exact ⟨by omega, fun j hj => e2 j (by omega)⟩
    refine ⟨h1, fun y hy => ?_, fun h => absurd h hnp, fun _ i j hi hj => (cell i hi).2 j hj⟩
    obtain ⟨i, hi, rfl⟩ := List.mem_iff_getElem.1 hy
    have hi' : i < xs.length := by omega
    obtain ⟨c1, c2⟩ := cell i hi'
    have e : ys.getD i .top = ys[i] := by simp [List.getD_eq_getElem?_getD, hi]
    rw [e] at c1 c2
    simp only [AV.okElem, c1, beq_self_eq_true, Bool.true_and, List.all_eq_true]
    intro c hc
    obtain ⟨j, hj, rfl⟩ := List.mem_iff_getElem.1 hc
    have hk := okElem_one (hok _ (at_ i hi'))
    have hl := okElem_len (hok _ (at_ i hi'))
    have hj' : j < sz := by omega
    have h3 := c2 j hj'
    have e3 : ys[i].cells.getD j .top = ys[i].cells[j] := by simp [List.getD_eq_getElem?_getD, hj]
    rw [e3] at h3
    refine resolve_one h3 ?_
    rw [List.all_eq_true] at hk
    have hj2 : j < (xs.getD i .top).cells.length := by omega
    exact hk _ (getD_mem hj2)

section
variable {w : World} {A A' : Nat → Prop} {M M' : Nat → Option MB} {B : Nat} {H : List Box}

theorem reach_box {n id : Nat} {e : AV} {bx : Box} (hb : H[id]? = some bx) (hnp : ¬ bx.pm = true) (he : e ∈ bx.xs) {c : AV} (hc : c ∈ e.cells) {k : Nat} (hk : k ∈ reach H n c) :
    k ∈ (match H[id]? with | some bx => if bx.pm = true then [] else bx.xs.flatMap fun (e : AV) => e.cells.flatMap (reach H n) | none => []) := by
  simp only [hb, hnp, if_false]
  exact List.mem_flatMap.2 ⟨e, he, List.mem_flatMap.2 ⟨c, hc, hk⟩⟩

theorem reach_seg {n id off len : Nat} {e : AV} {bx : Box} (hb : H[id]? = some bx) (hnp : ¬ bx.pm = true) (he : e ∈ (bx.xs.drop off).take len) {c : AV} (hc : c ∈ e.cells) {k : Nat} (hk : k ∈ reach H n c) :
    k ∈ (match H[id]? with | some bx => if bx.pm = true then [] else ((bx.xs.drop off).take len).flatMap fun (e : AV) => e.cells.flatMap (reach H n) | none => []) := by
  simp only [hb, hnp, if_false]
  exact List.mem_flatMap.2 ⟨e, he, List.mem_flatMap.2 ⟨c, hc, hk⟩⟩

theorem mem_getD {xs : List AV} {c : AV} (h : c ∈ xs) : ∃ i, i < xs.length ∧ xs.getD i .top = c := by
  obtain ⟨i, hi, rfl⟩ := List.mem_iff_getElem.1 h
  exact ⟨i, hi, by simp [List.getD_eq_getElem?_getD, hi]⟩

theorem resolve_sound (hR : HR w A M B H) (hA : ∀ b, b < w.heap.size → A' b → A b) : ∀ (n : Nat) (v : Value) (x y : AV), Rel w A M v x → resolve H n x = some y →
    (∀ id, id ∈ reach H n x → ∀ m, M id = some m → 0 < m.cap → ¬ A' m.b) → Rel w A' noBox v y
  | 0, v, x, y, hx, h, _ => by
    unfold resolve at h
    split at h
    · rename_i hp
      simp only [Option.some.injEq] at h; subst h
      exact (hx.mono (fun _ _ _ => rfl) (Nat.le_refl _) hA (MExt.refl M)).pure hp
    · simp at h
  | n + 1, v, x, y, hx, h, hid => by
    unfold resolve at h
    unfold reach at hid
    split at h
    · rename_i hp
      simp only [Option.some.injEq] at h; subst h
      exact (hx.mono (fun _ _ _ => rfl) (Nat.le_refl _) hA (MExt.refl M)).pure hp
    rename_i hp
    simp only [hp, if_false] at hid
    split at h
    · rename_i cs
      split at h
      case h_2 => simp at h
      rename_i ds hds
      simp only [Option.some.injEq] at h; subst h
      obtain ⟨vs, rfl, hs, hr⟩ := hx.agg_inv
      obtain ⟨e1, e2⟩ := mapO_spec hds
      exact .agg vs ds (by omega) fun i hi => resolve_sound hR hA n _ _ _ (hr i (by omega)) (e2 i (by omega)) fun k hk m hm => hid k (List.mem_flatMap.2 ⟨_, getD_mem (by omega), hk⟩) m hm
    · rename_i f cs
      split at h
      case h_2 => simp at h
      rename_i ds hds
      simp only [Option.some.injEq] at h; subst h
      obtain ⟨vs, rfl, hs, hr⟩ := hx.func_inv
      obtain ⟨e1, e2⟩ := mapO_spec hds
      exact .func f vs ds (by omega) fun i hi => resolve_sound hR hA n _ _ _ (hr i (by omega)) (e2 i (by omega)) fun k hk m hm => hid k (List.mem_flatMap.2 ⟨_, getD_mem (by omega), hk⟩) m hm
    · rename_i id ver i j
      split at h
      case h_2 => simp at h
      rename_i bx hbx
      split at h
      case h_2 => simp at h
      rename_i ys hys
      split at h
      case isFalse => simp at h
      rename_i hi
      simp only [Option.some.injEq] at h; subst h
      obtain ⟨m, hm, hbat, rfl⟩ := own_at hR hx hbx
      have hb1 := (getBox_some hbx).1
      have hcap0 : 0 < m.cap := by have := hbat.fits; omega
      obtain ⟨c, h1, h2, h3⟩ := hbat.cells hcap0
      obtain ⟨e1, e2, e0, e3⟩ := mapE_cells hys (fun x hx => hbat.ok x hx)
      have hsz := hbat.sz
      have hcell : ∀ i j, i < bx.xs.length → j < m.sz → w.cell? ⟨m.b, i * m.sz + j, none⟩ = some (c.getD (i * m.sz + j) undef) := by
        intro i j hi hj
        have hk : i * m.sz + j < c.size := by rw [h2]; exact idx_lt (Nat.lt_of_lt_of_le hi hbat.fits) hj
        simp [World.cell?, h1, hk]
      have hna : ¬ A' m.b := hid id (by simp) m hm hcap0
      have := Rel.eptr (w := w) (A := A') (M := noBox) m.b 0 m.sz ys i j (fun i j => c.getD (i * m.sz + j) undef) hna (hbat.lt hcap0) (by omega) e2
        (fun i j hi hj => by rw [Nat.zero_add]; exact hcell i j (by omega) hj)
        (fun i j hi hj => by
          have h4 := h3 i j (by omega) hj
          by_cases hpp : bx.pm = true
          · rw [e0 hpp]
            rw [hpp] at h4
            exact h4.mono (fun _ _ _ => rfl) (Nat.le_refl _) hA (MExt.refl _)
          · refine resolve_sound hR hA n _ _ _ h4.unmp (e3 hpp i j (by omega) hj) fun k hk m' hm' => ?_
            refine hid k (List.mem_cons_of_mem _ (reach_box hb1 hpp (getD_mem (show i < bx.xs.length by omega)) ?_ hk)) m' hm'
            have hl := okElem_len (hbat.ok _ (getD_mem (show i < bx.xs.length by omega)))
            exact getD_mem (by omega))
      rw [Nat.zero_add] at this
      rw [hsz]
      exact this
    · rename_i id ver off len
      split at h
      case h_2 => simp at h
      rename_i bx hbx
      split at h
      case h_2 => simp at h
      rename_i ys hys
      split at h
      case isFalse => simp at h
      rename_i hle
      simp only [Option.some.injEq] at h; subst h
      obtain ⟨m, a, hm, hbat, hfit, rfl, ha⟩ := osl_at hR hx hbx
      have hb1 := (getBox_some hbx).1
      have hsub : ∀ x, x ∈ (bx.xs.drop off).take len → x ∈ bx.xs := fun x hx => List.mem_of_mem_drop (List.mem_of_mem_take hx)
      obtain ⟨e1, e2, e0, e3⟩ := mapE_cells hys (fun x hx => hbat.ok x (hsub x hx))
      have hlen : ((bx.xs.drop off).take len).length = len := by simp; omega
      have hg : ∀ i, i < len → ((bx.xs.drop off).take len).getD i .top = bx.xs.getD (off + i) .top := fun i hi => by
        simp [List.getD_eq_getElem?_getD, List.getElem?_take, hi, List.getElem?_drop]
      have hsz := hbat.sz
      rw [hlen] at e1
      rw [hsz]
      by_cases hz : len = 0
      · have : ys = [] := List.eq_nil_of_length_eq_zero (by omega)
        subst this; subst hz
        exact .list0 _ _ _
      · have haa := ha (by omega); subst haa
        have hcap0 : 0 < m.cap := by omega
        obtain ⟨c, h1, h2, h3⟩ := hbat.cells hcap0
        have hna : ¬ A' m.b := hid id (by simp) m hm hcap0
        have := Rel.list (w := w) (A := A') (M := noBox) m.b (off * m.sz) (m.cap - off) m.sz ys (fun i j => c.getD ((off + i) * m.sz + j) undef) hna (hbat.lt hcap0) (by intro e; subst e; simp at e1; omega) (by omega) e2
          (fun i j hi hj => by
            have hk : (off + i) * m.sz + j < c.size := by rw [h2]; exact idx_lt (by omega) hj
            rw [show off * m.sz + i * m.sz + j = (off + i) * m.sz + j by rw [Nat.add_mul]]
            simp [World.cell?, h1, hk])
          (fun i j hi hj => by
            have h4 := h3 (off + i) j (by omega) hj
            by_cases hpp : bx.pm = true
            · rw [e0 hpp, hg i (by omega)]
              rw [hpp] at h4
              exact h4.mono (fun _ _ _ => rfl) (Nat.le_refl _) hA (MExt.refl _)
            · have h5 := e3 hpp i j (by rw [hlen]; omega) hj
              rw [hg i (by omega)] at h5
              refine resolve_sound hR hA n _ _ _ h4.unmp h5 fun k hk m' hm' => ?_
              have hmem : bx.xs.getD (off + i) .top ∈ (bx.xs.drop off).take len := by rw [← hg i (by omega)]; exact getD_mem (by omega)
              refine hid k (List.mem_cons_of_mem _ (reach_seg hb1 hpp hmem ?_ hk)) m' hm'
              have hl := okElem_len (hbat.ok _ (getD_mem (show off + i < bx.xs.length by omega)))
              exact getD_mem (by omega))
        rw [e1] at this
        exact this
    · simp at h

end
end Go.Sim
/- Operations that write into boxes of the call's own: a store, an append. -/
set_option linter.unusedVariables false
set_option linter.unusedSimpArgs false
set_option linter.unnecessarySimpa false
namespace Go.Sim
open Go.RowKit

/-- The elements of a slice. -/
def absElems (H : List Box) (sz : Nat) : AV → Option (List AV × Bool)
  | .nils => some ([], true)
  | .list sz' xs => if sz' = sz then some (xs, true) else none
  | .osl id ver off len => match getBox H id ver with
    | some bx => if bx.sz = sz ∧ off + len ≤ bx.xs.length then some ((bx.xs.drop off).take len, bx.pm) else none
    | none => none
  | _ => none

def putCells (e : AV) (j n sz : Nat) (v : AV) : AV := if j = 0 ∧ n = sz then v else .agg (e.cells.take j ++ v.cells ++ e.cells.drop (j + n))

/-- The source of an append: a slice of the same type, or a text's bytes. -/
def absSrc (P : Program) (H : List Box) (t tt e : TypeId) (sz : Nat) (x : AV) : Option (List AV × Bool) :=
  if t = tt then absElems H sz x else
    match tinfo P tt, tinfo P e, x with
    | some tj, some te, .str s => match tj.d, te.d with
      | .string, .int .u8 => if te.sz = 1 then some (s.map fun (u : UInt8) => .int .u8 u.toNat, true) else none
      | _, _ => none
    | _, _, _ => none

def absApp (H : List Box) (e : TypeId) (te : TI) (s : AV) (ys : List AV) (pm : Bool) : Option (AV × List Box) :=
  match s with
  | .nils => if 0 < te.sz ∧ ys.length * te.bytes ≤ 140737488355328 ∧ ys.length ≤ strMax ∧ te.zero.okElem te.sz = true then some (.osl H.length 0 0 ys.length, H ++ [⟨0, te.sz, e, ys, false, pm⟩]) else none
  | .osl id ver off len => match getBox H id ver with
    | some bx => if off = 0 ∧ len = bx.xs.length ∧ bx.frz = false ∧ bx.sz = te.sz ∧ bx.ty = e ∧ 0 < te.sz ∧ (len + ys.length) * te.bytes ≤ 140737488355328 ∧ len + ys.length ≤ strMax ∧ te.zero.okElem te.sz = true then
        some (.osl id (ver + 1) 0 (len + ys.length), H.set id ⟨ver + 1, te.sz, e, bx.xs ++ ys, false, bx.pm && pm⟩) else none
    | none => none
  | _ => none

def absAppend (P : Program) (H : List Box) (t tt : TypeId) (s x : AV) : Option (AV × List Box) :=
  match tinfo P t with
  | some ti => match ti.d with
    | .slice e => match tinfo P e with
      | some te => match absSrc P H t tt e te.sz x with
        | some (ys, pm) => absApp H e te s ys pm
        | none => none
      | none => none
    | _ => none
  | none => none

def absStore (P : Program) (H : List Box) (t : TypeId) (a v : AV) : Option (List Box) :=
  match tinfo P t, a with
  | some ti, .own id ver i j => match getBox H id ver with
    | some bx => match bx.xs[i]? with
      | some e => if bx.frz = false ∧ v.okElem ti.sz = true ∧ j + ti.sz ≤ bx.sz then some (H.set id ⟨ver, bx.sz, bx.ty, bx.xs.set i (putCells e j ti.sz bx.sz v), false, bx.pm && v.pure⟩) else none
      | none => none
    | none => none
  | _, _ => none

/-- The builtin 'clear' on a slice of the call's own. -/
def absClear (P : Program) (H : List Box) (t : TypeId) (x : AV) : Option (List Box) :=
  match tinfo P t with
  | some ti => match ti.d with
    | .slice e => match tinfo P e with
      | some te => match x with
        | .osl id ver off len => match getBox H id ver with
          | some bx => if bx.frz = false ∧ bx.sz = te.sz ∧ off + len ≤ bx.xs.length ∧ te.zero.okElem te.sz = true ∧ te.zero.pure = true then
              some (H.set id ⟨ver, bx.sz, bx.ty, bx.xs.take off ++ (List.replicate len te.zero ++ bx.xs.drop (off + len)), false, bx.pm⟩) else none
          | none => none
        | _ => none
      | none => none
    | _ => none
  | none => none

/-- An operation that writes into a box. -/
def iop (P : Program) (ρ : Operand → AV) (H : List Box) (op : Op) : Option (AV × List Box) :=
  match op with
  | .store t a v => match absStore P H t (ρ a) (ρ v) with
    | some H' => some (.tuple [], H')
    | none => none
  | .call c => match c.callee with
    | .builtin b => match b, c.argTypes.toList, c.args.toList with
      | .append, [t, t'], [s, x] => absAppend P H t t' (ρ s) (ρ x)
      | .clear, [t], [x] => match absClear P H t (ρ x) with
        | some H' => some (.tuple [], H')
        | none => none
      | _, _, _ => none
    | _ => none
  | _ => none

theorem cells_agg (l : List AV) : (AV.agg l).cells = l := rfl

def splice (l : List Value) (o : Nat) (vs : List Value) : List Value := l.take o ++ vs ++ l.drop (o + vs.length)

theorem splice_getD {l : List Value} {o : Nat} {vs : List Value} (h : o + vs.length ≤ l.length) (k : Nat) :
    (splice l o vs).getD k undef = if o ≤ k ∧ k < o + vs.length then vs.getD (k - o) undef else l.getD k undef := by
  have h1 : min o l.length = o := by omega
  simp only [splice, List.append_assoc, List.getD_eq_getElem?_getD, List.getElem?_append, List.length_take, h1]
  by_cases hk : k < o
  · simp [hk, List.getElem?_take, show ¬ o ≤ k by omega]
  · by_cases hk2 : k < o + vs.length
    · simp [hk, show k - o < vs.length by omega, hk2, show o ≤ k by omega]
    · simp only [hk, if_false, show ¬ (k - o < vs.length) by omega, hk2, and_false, List.getElem?_drop]
      congr 2
      omega

theorem splice_length {l : List Value} {o : Nat} {vs : List Value} (h : o + vs.length ≤ l.length) : (splice l o vs).length = l.length := by
  simp [splice]; omega

section
variable {P : Program} {w : World} {A : Nat → Prop} {M : Nat → Option MB} {B : Nat} {H : List Box}

theorem getD_toArray (l : List Value) (k : Nat) : l.toArray.getD k undef = l.getD k undef := by simp [List.getD_eq_getElem?_getD, Array.getD_eq_getD_getElem?]

theorem getD_toList (c : Array Value) (k : Nat) : c.toList.getD k undef = c.getD k undef := by simp [List.getD_eq_getElem?_getD, Array.getD_eq_getD_getElem?]

def MSet (M : Nat → Option MB) (id : Nat) (m : MB) : Nat → Option MB := fun i => if i = id then some m else M i

theorem mext_set {id : Nat} {m m' : MB} (hm : M id = some m) (h : m' = m ∨ m.ver < m'.ver) : MExt M (MSet M id m') := fun i m1 h1 => by
  by_cases hi : i = id
  · subst hi
    rw [hm] at h1
    simp only [Option.some.injEq] at h1
    subst h1
    exact ⟨m', by simp [MSet], h⟩
  · exact ⟨m1, by simp [MSet, hi, h1], .inl rfl⟩

/-- Of the blocks that were there those of boxes alone turn, and a box keeps its block or has a new one. -/
def Touch (w w' : World) (M M' : Nat → Option MB) : Prop :=
  (∀ b, b < w.heap.size → (∀ id m, M id = some m → 0 < m.cap → m.b ≠ b) → w'.heap[b]? = w.heap[b]?) ∧
  ∀ id m', M' id = some m' → 0 < m'.cap → (∃ i m, M i = some m ∧ 0 < m.cap ∧ m'.b = m.b) ∨ w.heap.size ≤ m'.b

theorem Touch.of_new {w w' : World} {M M' : Nat → Option MB} (hb : Below w.heap.size w w') (h : ∀ id m, M' id = some m → M id = some m ∨ w.heap.size ≤ m.b) : Touch w w' M M' :=
  ⟨fun b h _ => hb.block b h, fun id m' hm h0 => (h id m' hm).imp (fun h => ⟨id, m', h, h0, rfl⟩) (fun h => h)⟩

/-- The box's block is written in place. -/
theorem write_step (hR : HR w A M B H) {id : Nat} {m m' : MB} {bx bx' : Box} (hcap0 : 0 < m.cap) (hm : M id = some m) (hb : H[id]? = some bx) (hbat : BoxAt w A M B m bx) (hfz : bx.frz = false) {c' : Array Value}
    (e1 : m'.b = m.b) (e2 : m'.cap = m.cap) (e3 : m'.sz = m.sz) (e4 : m'.ty = m.ty) (e5 : m' = m ∨ m.ver < m'.ver) (f1 : bx'.ver = m'.ver) (f2 : bx'.sz = m'.sz) (f3 : bx'.ty = m'.ty) (f4 : bx'.frz = false)
    (hfit : bx'.xs.length ≤ m.cap) (hok : ∀ x, x ∈ bx'.xs → x.okElem m.sz = true) (hsz : c'.size = m.cap * m.sz)
    (hc : ∀ i j, i < bx'.xs.length → j < m.sz → Rel w A (MP M bx'.pm) (c'.getD (i * m.sz + j) undef) ((bx'.xs.getD i .top).cells.getD j .top)) :
    HR (w.setRow m.b c') A (MSet M id m') B (H.set id bx') ∧ MExt M (MSet M id m') ∧ (∀ b, b < w.heap.size → ¬ A b → (w.setRow m.b c').heap[b]? = w.heap[b]?) ∧ Below B w (w.setRow m.b c') ∧ Touch w (w.setRow m.b c') M (MSet M id m') ∧ A m.b := by
  have hAm : A m.b := (hbat.guard hcap0).1 hfz
  have hext : MExt M (MSet M id m') := mext_set hm e5
  have hs : (w.setRow m.b c').heap.size = w.heap.size := by simp [World.setRow]
  have hw : ∀ b, b < w.heap.size → ¬ A b → (w.setRow m.b c').heap[b]? = w.heap[b]? := fun b _ hb => setRow_other w m.b b c' fun e => hb (e ▸ hAm)
  obtain ⟨c, h1, h2, h3⟩ := hbat.cells hcap0
  refine ⟨⟨?_, ?_, fun b hb => by rw [hs]; exact hR.lt b hb⟩, hext, hw, ⟨rfl, rfl, rfl, by rw [hs]; exact Nat.le_refl _, fun k hk => setRow_other w m.b k c' fun e => by have := hbat.low hcap0; omega⟩, ⟨fun b _ hb => setRow_other w m.b b c' fun e => hb id m hm hcap0 e.symm, fun i m1 h1' _ => ?_⟩, hAm⟩
  · intro i m1 h1'
    have hlen : id < H.length := by
      rcases Nat.lt_or_ge id H.length with h' | h'
      · exact h'
      · rw [List.getElem?_eq_none h'] at hb; simp at hb
    by_cases hi : i = id
    · subst hi
      have : m1 = m' := by simp [MSet] at h1'; exact h1'.symm
      subst this
      refine ⟨bx', by simp [hlen], ⟨f1, f2, f3, by rw [e2]; exact hbat.capm, by rw [e2]; exact hfit, by rw [e3]; exact hok, fun _ => by rw [e1]; exact hbat.low hcap0, fun _ => by rw [e1, hs]; exact hbat.lt hcap0, fun _ => ⟨c', by rw [e1, e4]; exact setRow_heap w m.b c c' m.ty (0, 0) h1, by rw [e2, e3]; exact hsz, ?_⟩, fun _ => ⟨fun _ => by rw [e1]; exact hAm, fun _ => f4⟩⟩⟩
      intro i j hi hj
      rw [e3] at hj ⊢
      exact (hc i j hi hj).mono hw (by rw [hs]; exact Nat.le_refl _) (fun b _ h => h) (mext_mp hext _)
    · have hm2 : M i = some m1 := by simpa [MSet, hi] using h1'
      obtain ⟨bx2, g1, g2⟩ := hR.box i m1 hm2
      have hne : 0 < m1.cap → m1.b ≠ m.b := fun h0 e => hi (hR.inj i id m1 m hm2 hm h0 hcap0 e)
      exact ⟨bx2, by rw [List.getElem?_set_ne (Ne.symm hi)]; exact g1, g2.mono (fun h0 => setRow_other w m.b m1.b c' (hne h0)) hw (by rw [hs]; exact Nat.le_refl _) (fun b _ h => h) g2.guard hext⟩
  · intro i i' m1 m2 h1' h2' c1 c2 he
    by_cases hi : i = id <;> by_cases hi' : i' = id
    · rw [hi, hi']
    · have g1 : m1 = m' := by simp [MSet, hi] at h1'; exact h1'.symm
      have g2 : M i' = some m2 := by simpa [MSet, hi'] using h2'
      rw [hi]
      exact hR.inj id i' m m2 hm g2 hcap0 c2 (by rw [← he, g1, e1])
    · have g1 : m2 = m' := by simp [MSet, hi'] at h2'; exact h2'.symm
      have g2 : M i = some m1 := by simpa [MSet, hi] using h1'
      rw [hi']
      exact hR.inj i id m1 m g2 hm c1 hcap0 (by rw [he, g1, e1])
    · exact hR.inj i i' m1 m2 (by simpa [MSet, hi] using h1') (by simpa [MSet, hi'] using h2') c1 c2 he
  · by_cases hi : i = id
    · have g1 : m1 = m' := by simp [MSet, hi] at h1'; exact h1'.symm
      exact .inl ⟨id, m, hm, hcap0, by rw [g1, e1]⟩
    · rename_i h0
      exact .inl ⟨i, m1, by simpa [MSet, hi] using h1', h0, rfl⟩

/-- A box without a block grows older. -/
theorem bump_step (hR : HR w A M B H) {id : Nat} {m m' : MB} {bx bx' : Box} (hcap0 : m.cap = 0) (hm : M id = some m) (hb : H[id]? = some bx)
    (e2 : m'.cap = m.cap) (e3 : m'.sz = m.sz) (e5 : m' = m ∨ m.ver < m'.ver) (f1 : bx'.ver = m'.ver) (f2 : bx'.sz = m'.sz) (f3 : bx'.ty = m'.ty) (f5 : bx'.xs = []) :
    HR w A (MSet M id m') B (H.set id bx') ∧ MExt M (MSet M id m') ∧ Touch w w M (MSet M id m') := by
  have hext : MExt M (MSet M id m') := mext_set hm e5
  have hc : ∀ {p : Prop}, 0 < m'.cap → p := fun h => absurd h (by omega)
  refine ⟨⟨?_, ?_, hR.lt⟩, hext, ⟨fun _ _ _ => rfl, fun i m1 h1' h0 => ?_⟩⟩
  · intro i m1 h1'
    have hlen : id < H.length := by
      rcases Nat.lt_or_ge id H.length with h' | h'
      · exact h'
      · rw [List.getElem?_eq_none h'] at hb; simp at hb
    by_cases hi : i = id
    · subst hi
      have : m1 = m' := by simp [MSet] at h1'; exact h1'.symm
      subst this
      exact ⟨bx', by simp [hlen], ⟨f1, f2, f3, by rw [e2, hcap0]; exact Nat.zero_le _, by rw [f5]; exact Nat.zero_le _, by rw [f5]; simp, hc, hc, hc, hc⟩⟩
    · have hm2 : M i = some m1 := by simpa [MSet, hi] using h1'
      obtain ⟨bx2, g1, g2⟩ := hR.box i m1 hm2
      exact ⟨bx2, by rw [List.getElem?_set_ne (Ne.symm hi)]; exact g1, g2.mono (fun _ => rfl) (fun _ _ _ => rfl) (Nat.le_refl _) (fun b _ h => h) g2.guard hext⟩
  · intro i i' m1 m2 h1' h2' c1 c2 he
    by_cases hi : i = id
    · have g1 : m1 = m' := by simp [MSet, hi] at h1'; exact h1'.symm
      rw [g1] at c1; exact hc c1
    · by_cases hi' : i' = id
      · have g1 : m2 = m' := by simp [MSet, hi'] at h2'; exact h2'.symm
        rw [g1] at c2; exact hc c2
      · exact hR.inj i i' m1 m2 (by simpa [MSet, hi] using h1') (by simpa [MSet, hi'] using h2') c1 c2 he
  · by_cases hi : i = id
    · have g1 : m1 = m' := by simp [MSet, hi] at h1'; exact h1'.symm
      rw [g1] at h0; exact hc h0
    · exact .inl ⟨i, m1, by simpa [MSet, hi] using h1', h0, rfl⟩

/-- What a step that writes leaves. -/
def Writes (P : Program) (o : Oper) (ρc : Operand → Value) (w : World) (A : Nat → Prop) (M : Nat → Option MB) (B : Nat) (x : AV) (H' : List Box) : Prop :=
  ∃ n w' A' M' v, (execOp ρc o).run P w = .ok n w' ∧ ((n = .value v) ∨ (n = .skip ∧ v = undef)) ∧ Below B w w' ∧ MExt M M' ∧ (∀ b, b < w.heap.size → (A' b ↔ A b)) ∧ (∀ b, b < w.heap.size → ¬ A b → w'.heap[b]? = w.heap[b]?) ∧ Touch w w' M M' ∧ HR w' A' M' B H' ∧ Rel w' A' M' v x

theorem cells_one {v : Value} {x : AV} (h : Rel w A M v x) (hx : x.cells.all AV.one = true) : ∀ u, u ∈ v.cells.toList → u.oneCell' = true := by
  intro u hu
  obtain ⟨h1, h2⟩ := h.cells hx
  obtain ⟨i, hi, rfl⟩ := List.mem_iff_getElem.1 hu
  have hi' : i < x.cells.length := by simp at hi; omega
  have := h2 i hi'
  have e : v.cells.getD i undef = v.cells.toList[i] := by simp at hi; simp [hi]
  rw [e] at this
  refine this.oneCell ?_
  rw [List.all_eq_true] at hx
  exact hx _ (getD_mem hi')

theorem store_sound (hR : HR w A M B H) {o : Oper} {ρc : Operand → Value} {t : TypeId} {oa ov : Operand} {xa xv : AV} {H' : List Box} (ho : o.op = .store t oa ov) (ha : Rel w A M (ρc oa) xa) (hv : Rel w A M (ρc ov) xv) (h : absStore P H t xa xv = some H') :
    Writes P o ρc w A M B (.tuple []) H' := by
  unfold absStore at h
  split at h
  case h_2 => simp at h
  rename_i ti id ver i j hti
  split at h
  case h_2 => simp at h
  rename_i bx hbx
  split at h
  case h_2 => simp at h
  rename_i e he
  split at h
  case isFalse => simp at h
  rename_i hc0
  obtain ⟨hfz, hok, hle⟩ := hc0
  simp only [Option.some.injEq] at h; subst h
  obtain ⟨m, hm, hbat, hpa⟩ := own_at hR ha hbx
  obtain ⟨hb1, hb2⟩ := getBox_some hbx
  have hcap0 : 0 < m.cap := by
    have := hbat.fits
    have : 0 < bx.xs.length := List.length_pos_of_mem (List.mem_of_getElem? he)
    omega
  obtain ⟨c, h1, h2, h3⟩ := hbat.cells hcap0
  have hvl := okElem_len hok
  have hone := okElem_one hok
  have hcu := rc_cells hv hone
  have hvs : (ρc ov).cells.size = ti.sz := by have := hcu.1; simp at this; omega
  have hi : i < bx.xs.length := by
    rcases Nat.lt_or_ge i bx.xs.length with h' | h'
    · exact h'
    · simp [List.getElem?_eq_none h'] at he
  have hge : bx.xs.getD i .top = e := by simp [List.getD_eq_getElem?_getD, he]
  have hel := okElem_len (hbat.ok e (List.mem_of_getElem? he))
  have hsz := hbat.sz
  have hfitI : i * m.sz + m.sz ≤ c.size := by
    rw [h2]
    have : (i + 1) * m.sz ≤ m.cap * m.sz := Nat.mul_le_mul_right _ (Nat.le_trans hi hbat.fits)
    rw [Nat.add_mul, Nat.one_mul] at this
    exact this
  have hoff : i * m.sz + j + (ρc ov).cells.toList.length ≤ c.toList.length := by simp; omega
  have hput : (putCells e j ti.sz bx.sz xv).cells.length = m.sz ∧ (∀ k, k < m.sz → (putCells e j ti.sz bx.sz xv).cells.getD k .top = if j ≤ k ∧ k < j + ti.sz then xv.cells.getD (k - j) .top else e.cells.getD k .top) ∧ (putCells e j ti.sz bx.sz xv).cells.all AV.one = true := by
    unfold putCells
    split
    · rename_i hw
      obtain ⟨rfl, hw⟩ := hw
      exact ⟨by omega, fun k hk => by rw [if_pos (by omega)]; simp, hone⟩
    · have hmin : min j e.cells.length = j := by omega
      refine ⟨by rw [cells_agg]; simp; omega, fun k hk => ?_, ?_⟩
      · simp only [cells_agg, List.append_assoc, List.getD_eq_getElem?_getD, List.getElem?_append, List.length_take, hmin]
        by_cases hk1 : k < j
        · simp [hk1, List.getElem?_take, show ¬ j ≤ k by omega]
        · by_cases hk2 : k < j + ti.sz
          · simp [hk1, hvl, show k - j < ti.sz by omega, hk2, show j ≤ k by omega]
          · simp only [hk1, if_false, hvl, show ¬ (k - j < ti.sz) by omega, hk2, and_false, List.getElem?_drop]
            congr 2
            omega
      · have h5 := okElem_one (hbat.ok e (List.mem_of_getElem? he))
        rw [List.all_eq_true] at h5 hone
        simp only [cells_agg, List.all_append, Bool.and_eq_true, List.all_eq_true]
        exact ⟨⟨fun x hx => h5 x (List.mem_of_mem_take hx), hone⟩, fun x hx => h5 x (List.mem_of_mem_drop hx)⟩
  have hst := run_storeCells_at P m.b (i * m.sz + j) m.ty (ρc ov).cells.toList 0 c w h1 (by simp; omega) (cells_one hv hone)
  simp only [Nat.add_zero] at hst
  obtain ⟨g1, g2, g3, g4, gt, g5⟩ := write_step (m' := m) (bx' := ⟨ver, bx.sz, bx.ty, bx.xs.set i (putCells e j ti.sz bx.sz xv), false, bx.pm && xv.pure⟩) hR hcap0 hm hb1 hbat hfz (c' := (splice c.toList (i * m.sz + j) (ρc ov).cells.toList).toArray) rfl rfl rfl rfl (.inl rfl)
    (by rw [← hbat.ver, ← hb2]) hsz hbat.ty rfl (by simpa using hbat.fits)
    (fun x hx => by
      rcases List.mem_or_eq_of_mem_set hx with hx | rfl
      · exact hbat.ok x hx
      · simp only [AV.okElem, hput.1, beq_self_eq_true, Bool.true_and]; exact hput.2.2)
    (by have := splice_length hoff; simp at this ⊢; omega)
    (fun i' j' hi' hj' => by
      simp at hi'
      rw [getD_toArray, splice_getD hoff]
      have hsv : (ρc ov).cells.toList.length = ti.sz := by simpa using hvs
      by_cases hii : i' = i
      · subst hii
        have e1 : (bx.xs.set i' (putCells e j ti.sz bx.sz xv)).getD i' .top = putCells e j ti.sz bx.sz xv := by simp [List.getD_eq_getElem?_getD, hi']
        rw [e1, hput.2.1 j' hj', hsv]
        by_cases hin : j ≤ j' ∧ j' < j + ti.sz
        · rw [if_pos (by omega), if_pos hin, show i' * m.sz + j' - (i' * m.sz + j) = j' - j by omega]
          exact (hcu.2 _ (by omega)).mp fun hp => pures_getD (pure_cells (Bool.and_eq_true _ _ ▸ hp).2) _
        · rw [if_neg (by omega), if_neg hin, getD_toList]
          have := h3 i' j' hi' hj'
          rw [hge] at this
          exact this.mp_and
      · have e1 : (bx.xs.set i (putCells e j ti.sz bx.sz xv)).getD i' .top = bx.xs.getD i' .top := by simp [List.getD_eq_getElem?_getD, List.getElem?_set, show ¬ i = i' from fun h => hii h.symm]
        rw [e1, hsv, if_neg, getD_toList]
        · exact (h3 i' j' hi' hj').mp_and
        · intro hin
          rcases Nat.lt_or_ge i' i with hlt | hge'
          · have : i' * m.sz + j' < i * m.sz := idx_lt hlt hj'
            omega
          · have h6 : (i + 1) * m.sz ≤ i' * m.sz := Nat.mul_le_mul_right _ (by omega)
            rw [Nat.add_mul, Nat.one_mul] at h6
            omega)
  refine ⟨.skip, _, A, _, undef, ?_, .inr ⟨rfl, rfl⟩, g4, g2, fun _ _ => Iff.rfl, g3, gt, g1, .tuple #[] [] rfl (by simp)⟩
  simp only [execOp, ho, hpa, Instr.storeAt, Instr.sureAddr, storeVar, Sem.run_bind, Sem.run_pure, Result.andThen_ok, run_size hti, hvs, ne_eq, not_true, if_false]
  rw [hst]
  rfl

end
end Go.Sim
/- An append to a slice of the call's own. -/
set_option linter.unusedVariables false
set_option linter.unusedSimpArgs false
set_option linter.unnecessarySimpa false
namespace Go.Sim
open Go.RowKit

section
variable {P : Program} {w : World} {A : Nat → Prop} {M : Nat → Option MB} {B : Nat} {H : List Box}

/-- The source of an append: its cells, or it is empty. -/
theorem absElems_sound (hR : HR w A M B H) {sz : Nat} {v : Value} {x : AV} {ys : List AV} {pm : Bool} (hx : Rel w A M v x) (h : absElems H sz x = some (ys, pm)) :
    (ys = [] ∧ ∃ a c, v = .slice a 0 c) ∨ ∃ b o c, v = .slice (some ⟨b, o, none⟩) ys.length c ∧ (∀ y, y ∈ ys → y.okElem sz = true) ∧
      ∀ i j, i < ys.length → j < sz → ∃ u, w.cell? ⟨b, o + (i * sz + j), none⟩ = some u ∧ Rel w A (MP M pm) u ((ys.getD i .top).cells.getD j .top) := by
  unfold absElems at h
  split at h
  · simp only [Option.some.injEq, Prod.mk.injEq] at h; obtain ⟨rfl, rfl⟩ := h
    cases hx
    exact .inl ⟨rfl, none, 0, rfl⟩
  · split at h
    case isFalse => simp at h
    rename_i hs
    subst hs
    simp only [Option.some.injEq, Prod.mk.injEq] at h; obtain ⟨rfl, rfl⟩ := h
    cases hx with
    | list0 a cap _ => exact .inl ⟨rfl, a, cap, rfl⟩
    | list b off cap _ _ val ha hb hne hcap hsz hc hr =>
      exact .inr ⟨b, off, cap, rfl, hsz, fun i j hi hj => ⟨val i j, by rw [← Nat.add_assoc]; exact hc i j hi hj, hr i j hi hj⟩⟩
  · rename_i id ver off len
    split at h
    case h_2 => simp at h
    rename_i bx hbx
    split at h
    case isFalse => simp at h
    rename_i hc0
    obtain ⟨hsz, hle⟩ := hc0
    simp only [Option.some.injEq, Prod.mk.injEq] at h; obtain ⟨rfl, rfl⟩ := h
    obtain ⟨m, a, hm, hbat, hfit, rfl, ha⟩ := osl_at hR hx hbx
    have hsm : m.sz = sz := by rw [← hbat.sz, hsz]
    have hlen : ((bx.xs.drop off).take len).length = len := by simp; omega
    by_cases hz : len = 0
    · subst hz
      exact .inl ⟨by simp, a, _, rfl⟩
    · have haa := ha (by omega); subst haa
      refine .inr ⟨m.b, off * m.sz, m.cap - off, by rw [hlen], fun y hy => by rw [← hsm]; exact hbat.ok y (List.mem_of_mem_drop (List.mem_of_mem_take hy)), fun i j hi hj => ?_⟩
      rw [hlen] at hi
      rw [← hsm] at hj ⊢
      have := hbat.cell' (show off + i < bx.xs.length by omega) hj
      rw [Nat.add_mul, Nat.add_assoc] at this
      have hg : ((bx.xs.drop off).take len).getD i .top = bx.xs.getD (off + i) .top := by
        simp [List.getD_eq_getElem?_getD, List.getElem?_take, hi, List.getElem?_drop]
      rwa [hg]
  · simp at h

theorem run_append_zero {t ty e : TypeId} {i : TypeInfo} (ht : P.underlying t = some (.slice e)) (hi : P.info? e = some i) (b : Option Addr) (len cap : Nat) (hle : len ≤ cap) (a : Option Addr) (c : Nat) :
    (Builtin.append_ #[t, t] ty #[.slice b len cap, .slice a 0 c]).run P w = .ok (.slice b len cap) w := by
  cases a <;> cases b <;> simp [Builtin.append_, run_underlying ht, sizeOf, typeInfo, hi, Builtin.lenOf, Builtin.firstCells, loadCells, loadCellsFrom, hle, storeCells]

/-- The source's cells as one list. -/
def srcCells (w : World) (b o n : Nat) : List Value := (List.range n).map fun k => (w.cell? ⟨b, o + k, none⟩).getD undef

theorem srcCells_len (w : World) (b o n : Nat) : (srcCells w b o n).length = n := by simp [srcCells]

theorem srcCells_getD {b o n k : Nat} (hk : k < n) : (srcCells w b o n).getD k undef = (w.cell? ⟨b, o + k, none⟩).getD undef := by
  simp [srcCells, List.getD_eq_getElem?_getD, hk]

theorem div_lt_of {k n sz : Nat} (hk : k < n * sz) : k / sz < n := Nat.div_lt_of_lt_mul (by rwa [Nat.mul_comm])

section src
variable {ys : List AV} {sz b o : Nat} (hsz : 0 < sz) (hs : ∀ i j, i < ys.length → j < sz → ∃ u, w.cell? ⟨b, o + (i * sz + j), none⟩ = some u ∧ Rel w A M u ((ys.getD i .top).cells.getD j .top))
include hsz hs

theorem src_cell {k : Nat} (hk : k < ys.length * sz) : ∃ u, w.cell? ⟨b, o + k, none⟩ = some u ∧ Rel w A M u ((ys.getD (k / sz) .top).cells.getD (k % sz) .top) := by
  have := hs (k / sz) (k % sz) (div_lt_of hk) (Nat.mod_lt _ hsz)
  rwa [Nat.mul_comm, Nat.div_add_mod] at this

theorem src_news (j : Nat) (u : Value) (h : (srcCells w b o (ys.length * sz))[j]? = some u) : w.cell? ((⟨b, o, none⟩ : Addr).add j) = some u := by
  have hj : j < ys.length * sz := by
    rcases Nat.lt_or_ge j (ys.length * sz) with h' | h'
    · exact h'
    · rw [List.getElem?_eq_none (by rw [srcCells_len]; exact h')] at h; simp at h
  obtain ⟨u', hu, _⟩ := src_cell hsz hs hj
  rw [addr_add, hu]
  simp [srcCells, hj, hu] at h
  rw [h]

omit hsz in
theorem src_rel {i j : Nat} (hi : i < ys.length) (hj : j < sz) : Rel w A M ((srcCells w b o (ys.length * sz)).getD (i * sz + j) undef) ((ys.getD i .top).cells.getD j .top) := by
  obtain ⟨u, hu, hr⟩ := hs i j hi hj
  rw [srcCells_getD (idx_lt hi hj), hu]
  exact hr

theorem src_one (hok : ∀ y, y ∈ ys → y.okElem sz = true) : ∀ u, u ∈ srcCells w b o (ys.length * sz) → u.oneCell' = true := by
  intro u hu
  obtain ⟨k, hk, rfl⟩ := List.mem_iff_getElem.1 hu
  have hk' : k < ys.length * sz := by rwa [srcCells_len] at hk
  obtain ⟨u', hu', hr⟩ := src_cell hsz hs hk'
  have e : (srcCells w b o (ys.length * sz))[k] = u' := by simp [srcCells, hu']
  rw [e]
  have hi := div_lt_of hk'
  have h1 := okElem_one (hok _ (getD_mem hi))
  have hl := okElem_len (hok _ (getD_mem hi))
  rw [List.all_eq_true] at h1
  exact hr.oneCell (h1 _ (getD_mem (by rw [hl]; exact Nat.mod_lt _ hsz)))
end src

theorem append_rel {xs ys : List AV} {c : List Value} {sz : Nat} {news : List Value} (hn : news.length = ys.length * sz)
    (hold : ∀ i j, i < xs.length → j < sz → Rel w A M (c.getD (i * sz + j) undef) ((xs.getD i .top).cells.getD j .top))
    (hnew : ∀ i j, i < ys.length → j < sz → Rel w A M (news.getD (i * sz + j) undef) ((ys.getD i .top).cells.getD j .top))
    {c' : List Value} (h1 : ∀ k, k < xs.length * sz → c'.getD k undef = c.getD k undef) (h2 : ∀ k, k < ys.length * sz → c'.getD (xs.length * sz + k) undef = news.getD k undef) :
    ∀ i j, i < (xs ++ ys).length → j < sz → Rel w A M (c'.getD (i * sz + j) undef) (((xs ++ ys).getD i .top).cells.getD j .top) := by
  intro i j hi hj
  by_cases hix : i < xs.length
  · have e : (xs ++ ys).getD i .top = xs.getD i .top := by simp [List.getD_eq_getElem?_getD, List.getElem?_append, hix]
    rw [e, h1 _ (idx_lt hix hj)]
    exact hold i j hix hj
  · have e : (xs ++ ys).getD i .top = ys.getD (i - xs.length) .top := by simp [List.getD_eq_getElem?_getD, List.getElem?_append, hix]
    have hiy : i - xs.length < ys.length := by simp at hi; omega
    have e2 : i * sz + j = xs.length * sz + ((i - xs.length) * sz + j) := by
      rw [← Nat.add_assoc, ← Nat.add_mul, show xs.length + (i - xs.length) = i by omega]
    rw [e, e2, h2 _ (idx_lt hiy hj)]
    exact hnew _ j hiy hj

theorem okElem_append {xs ys : List AV} {sz : Nat} (hx : ∀ x, x ∈ xs → x.okElem sz = true) (hy : ∀ x, x ∈ ys → x.okElem sz = true) : ∀ x, x ∈ xs ++ ys → x.okElem sz = true := fun x hxy => by
  rcases List.mem_append.1 hxy with h | h
  · exact hx x h
  · exact hy x h

theorem HR.drew (hR : HR w A M B H) : HR w.drew A M B H := hR.grow ⟨rfl, rfl, rfl, Nat.le_refl _, fun _ _ => rfl⟩

theorem HR.ext {H' : List Box} (hR : HR w A M B H) (h : ∀ id m, M id = some m → H'[id]? = H[id]?) : HR w A M B H' :=
  ⟨fun id m hm => by obtain ⟨bx, h1, h2⟩ := hR.box id m hm; exact ⟨bx, by rw [h id m hm]; exact h1, h2⟩, hR.inj, hR.lt⟩

theorem HR.none_of_length (hR : HR w A M B H) {id : Nat} (h : H.length ≤ id) : M id = none := by
  cases hm : M id with
  | none => rfl
  | some m =>
    obtain ⟨bx, h1, _⟩ := hR.box id m hm
    rw [List.getElem?_eq_none h] at h1
    simp at h1

set_option maxHeartbeats 1000000 in
/-- One step's part of it. -/
structure Mv (w : World) (A : Nat → Prop) (M : Nat → Option MB) (w' : World) (A' : Nat → Prop) (M' : Nat → Option MB) : Prop where
  size : w.heap.size ≤ w'.heap.size
  keep : ∀ b, b < w.heap.size → ¬ A b → w'.heap[b]? = w.heap[b]?
  less : ∀ b, b < w.heap.size → A' b → A b
  more : ∀ b, b < w.heap.size → A b → (∀ id m, M id = some m → 0 < m.cap → m.b ≠ b) → A' b
  ext : MExt M M'
  touch : Touch w w' M M'

theorem Mv.rel {w w' : World} {A A' : Nat → Prop} {M M' : Nat → Option MB} (h : Mv w A M w' A' M') {v : Value} {x : AV} (hr : Rel w A M v x) : Rel w' A' M' v x :=
  hr.mono h.keep h.size h.less h.ext

/-- A box without a block: nil is a slice of it. -/
theorem HR.virt {w : World} {A : Nat → Prop} {M : Nat → Option MB} {B : Nat} {H : List Box} (hR : HR w A M B H) (sz : Nat) (ty : TypeId) (pm : Bool) :
    HR w A (MPut M H.length ⟨0, 0, sz, 0, ty⟩) B (H ++ [⟨0, sz, ty, [], false, pm⟩]) ∧ Mv w A M w A (MPut M H.length ⟨0, 0, sz, 0, ty⟩) ∧ ∀ a, Rel w A (MPut M H.length ⟨0, 0, sz, 0, ty⟩) (.slice a 0 0) (.osl H.length 0 0 0) := by
  have hn : M H.length = none := hR.none_of_length (Nat.le_refl _)
  have hext : MExt M (MPut M H.length ⟨0, 0, sz, 0, ty⟩) := mext_put hn _
  have hcase : ∀ id m', MPut M H.length ⟨0, 0, sz, 0, ty⟩ id = some m' → 0 < m'.cap → M id = some m' := fun id m' hm h0 => by
    by_cases hid : id = H.length
    · subst hid; simp [MPut] at hm; subst hm; exact absurd h0 (by simp)
    · simpa [MPut, hid] using hm
  refine ⟨⟨fun id m' hm' => ?_, fun id id' m1 m2 h1 h2 c1 c2 he => hR.inj id id' m1 m2 (hcase id m1 h1 c1) (hcase id' m2 h2 c2) c1 c2 he, hR.lt⟩, ⟨Nat.le_refl _, fun _ _ _ => rfl, fun _ _ h => h, fun _ _ h _ => h, hext, ⟨fun _ _ _ => rfl, fun id m' hm h0 => .inl ⟨id, m', hcase id m' hm h0, h0, rfl⟩⟩⟩, fun a => ?_⟩
  · by_cases hid : id = H.length
    · subst hid
      have : m' = ⟨0, 0, sz, 0, ty⟩ := by simp [MPut] at hm'; exact hm'.symm
      subst this
      have hc : ∀ {p : Prop}, 0 < (0 : Nat) → p := fun h => absurd h (by simp)
      exact ⟨⟨0, sz, ty, [], false, pm⟩, by simp, rfl, rfl, rfl, Nat.zero_le _, Nat.zero_le _, fun x hx => by simp at hx, hc, hc, hc, hc⟩
    · have hm2 : M id = some m' := by simpa [MPut, hid] using hm'
      obtain ⟨bx, g1, g2⟩ := hR.box id m' hm2
      have hlt : id < H.length := by
        rcases Nat.lt_or_ge id H.length with h' | h'
        · exact h'
        · rw [List.getElem?_eq_none h'] at g1; simp at g1
      exact ⟨bx, by rw [List.getElem?_append_left hlt]; exact g1, g2.mono (fun _ => rfl) (fun _ _ _ => rfl) (Nat.le_refl _) (fun _ _ h => h) g2.guard hext⟩
  · exact .osl _ H.length 0 0 0 ⟨0, 0, sz, 0, ty⟩ (by simp [MPut]) (Nat.le_refl _) rfl fun _ => ⟨by simp, a, by simp, fun h => by simp at h⟩

/-- How an append of a value with these cells runs. -/
structure ARuns (P : Program) (w : World) (t tt ty e : TypeId) (i : TypeInfo) (z v : Value) (n : Nat) (news : List Value) : Prop where
  nil : (n : Int) ≤ 9223372036854775807 → n * i.bytes ≤ 281474976710656 → (Builtin.append_ #[t, tt] ty #[.slice none 0 0, v]).run P w =
    .ok (.slice (some ⟨w.heap.size, 0, none⟩) n (grownCap w n 0 e)) (w.drew.alloc (.cells (news.toArray ++ Builtin.zeroCells z.cells (grownCap w n 0 e - n)) e))
  grow : ∀ (b : Addr) (sLen sCap : Nat) (olds : List Value), olds.length = sLen * i.size → (∀ j u, olds[j]? = some u → w.cell? (b.add j) = some u) → sCap < sLen + n → ((sLen + n : Nat) : Int) ≤ 9223372036854775807 →
    Builtin.nextslicecap (sLen + n) sCap * i.bytes ≤ 281474976710656 → (Builtin.append_ #[t, tt] ty #[.slice (some b) sLen sCap, v]).run P w =
      .ok (.slice (some ⟨w.heap.size, 0, none⟩) (sLen + n) (grownCap w (sLen + n) sCap e))
        (w.drew.alloc (.cells (olds.toArray ++ news.toArray ++ Builtin.zeroCells z.cells (grownCap w (sLen + n) sCap e - (sLen + n))) e))
  room : ∀ (g sLen sCap : Nat) (cur : Array Value), w.heap[g]? = some (.cells cur e (0, 0)) → sLen + n ≤ sCap → sLen * i.size + news.length ≤ cur.size →
    (Builtin.append_ #[t, tt] ty #[.slice (some ⟨g, 0, none⟩) sLen sCap, v]).run P w =
      .ok (.slice (some ⟨g, 0, none⟩) (sLen + n) sCap) (w.setRow g (cur.toList.take (sLen * i.size) ++ news ++ cur.toList.drop (sLen * i.size + news.length)).toArray)

/-- What an append is given. -/
def ASrc (P : Program) (w : World) (A : Nat → Prop) (M : Nat → Option MB) (t tt ty e : TypeId) (sz : Nat) (v : Value) (ys : List AV) (pm : Bool) : Prop :=
  (ys = [] ∧ ∀ b len cap, len ≤ cap → (Builtin.append_ #[t, tt] ty #[.slice b len cap, v]).run P w = .ok (.slice b len cap) w) ∨
  (0 < ys.length ∧ (∀ y, y ∈ ys → y.okElem sz = true) ∧ ∃ news : List Value, news.length = ys.length * sz ∧
    (∀ i j, i < ys.length → j < sz → Rel w A (MP M pm) (news.getD (i * sz + j) undef) ((ys.getD i .top).cells.getD j .top)) ∧
    ∀ i z, P.info? e = some i → i.zero = some z → i.size = sz → ARuns P w t tt ty e i z v ys.length news)

theorem asrc_elems (hR : HR w A M B H) {t ty e : TypeId} {sz : Nat} (hpos : 0 < sz) (hu : P.underlying t = some (.slice e)) {i0 : TypeInfo} (hi0 : P.info? e = some i0) {v : Value} {x : AV} {ys : List AV} {pm : Bool} (hx : Rel w A M v x) (h : absElems H sz x = some (ys, pm)) :
    ASrc P w A M t t ty e sz v ys pm := by
  rcases absElems_sound hR hx h with ⟨he, a, cc, hxv⟩ | ⟨b, off, cc, hxv, hok, hcell⟩
  · subst hxv
    exact .inl ⟨he, fun b len cap hle => run_append_zero hu hi0 b len cap hle a cc⟩
  · subst hxv
    rcases Nat.eq_zero_or_pos ys.length with hn0 | hn0
    · rw [hn0]
      exact .inl ⟨List.eq_nil_of_length_eq_zero hn0, fun b' len cap hle => run_append_zero hu hi0 b' len cap hle _ cc⟩
    · refine .inr ⟨hn0, hok, srcCells w b off (ys.length * sz), srcCells_len _ _ _ _, fun i j hi hj => src_rel hcell hi hj, fun i z hi hz hs => ⟨fun h1 h2 => ?_, fun b' sLen sCap olds h1 h2 h3 h4 h5 => ?_, fun g sLen sCap cur h1 h2 h3 => ?_⟩⟩
      · exact run_append_nil (P := P) w t ty e i z hu hi hz ⟨b, off, none⟩ ys.length cc _ (by rw [srcCells_len, hs]) (src_news hpos hcell) hn0 h1 h2
      · exact run_append_grow (P := P) w t ty e i z hu hi hz b' sLen sCap olds h1 h2 ⟨b, off, none⟩ ys.length cc _ (by rw [srcCells_len, hs]) (src_news hpos hcell) h3 h4 h5
      · exact run_append_room (P := P) w t ty e i hu hi g sLen sCap cur h1 ⟨b, off, none⟩ ys.length cc _ (by rw [srcCells_len, hs]) (src_news hpos hcell) (src_one hpos hcell hok) h2 h3

theorem run_append_nil_string (w : World) (t u ty e : TypeId) (i : TypeInfo) (z : Value) (ht : P.underlying t = some (.slice e)) (hu : P.underlying u = some .string) (hi : P.info? e = some i) (hz : i.zero = some z) (s : ByteArray)
    (h0 : 0 < s.size) (h63 : (s.size : Int) ≤ 9223372036854775807) (h48 : s.size * i.bytes ≤ 281474976710656) :
    (Builtin.append_ #[t, u] ty #[.slice none 0 0, .string s]).run P w =
      .ok (.slice (some ⟨w.heap.size, 0, none⟩) s.size (grownCap w s.size 0 e)) (w.drew.alloc (.cells ((Lib.strCells s).toArray ++ Builtin.zeroCells z.cells (grownCap w s.size 0 e - s.size)) e)) := by
  have hn : s.size ≠ 0 := by omega
  have h63' : ¬ (9223372036854775807 < (s.size : Int)) := by omega
  have h48' : ¬ (281474976710656 < Builtin.nextslicecap s.size 0 * i.bytes) := by rw [nextslicecap_zero h0]; omega
  have hf := Lib.run_firstCells_string (P := P) w.drew i.size s
  simp [Builtin.append_, run_underlying ht, run_underlying hu, sizeOf, typeInfo, zeroValue, hi, hz, Builtin.lenOf, hn, h63', h48', Question.forced, run_firstCells_none, hf, newRow, grownCap]

theorem run_append_zero_string {t u ty e : TypeId} {i : TypeInfo} (ht : P.underlying t = some (.slice e)) (hu : P.underlying u = some .string) (hi : P.info? e = some i) (b : Option Addr) (len cap : Nat) (hle : len ≤ cap) (s : ByteArray) (h0 : s.size = 0) :
    (Builtin.append_ #[t, u] ty #[.slice b len cap, .string s]).run P w = .ok (.slice b len cap) w := by
  have hf := Lib.run_firstCells_string (P := P) w i.size s
  rw [h0] at hf
  have he : Lib.strCells s = [] := List.eq_nil_of_length_eq_zero (by rw [Lib.strCells_length, h0])
  rw [he] at hf
  cases b <;> simp [Builtin.append_, run_underlying ht, run_underlying hu, sizeOf, typeInfo, hi, Builtin.lenOf, h0, hle, hf, storeCells]

theorem asrc_str {t tt ty e : TypeId} (hu : P.underlying t = some (.slice e)) (hus : P.underlying tt = some .string) {i0 : TypeInfo} (hi0 : P.info? e = some i0) (s : ByteArray) :
    ASrc P w A M t tt ty e 1 (.string s) (s.data.toList.map fun (u : UInt8) => .int .u8 u.toNat) true := by
  have hsz : (s.data.toList.map fun (u : UInt8) => AV.int .u8 u.toNat).length = s.size := by rw [List.length_map, Array.length_toList]; rfl
  rcases Nat.eq_zero_or_pos s.size with hn0 | hn0
  · exact .inl ⟨List.eq_nil_of_length_eq_zero (by rw [hsz, hn0]), fun b len cap hle => run_append_zero_string hu hus hi0 b len cap hle s hn0⟩
  · refine .inr ⟨by rw [hsz]; exact hn0, fun y hy => ?_, Lib.strCells s, by rw [Lib.strCells_length, hsz, Nat.mul_one], fun i j hi hj => ?_, fun i z hi hz hs => ⟨fun h1 h2 => ?_, fun b' sLen sCap olds h1 h2 h3 h4 h5 => ?_, fun g sLen sCap cur h1 h2 h3 => ?_⟩⟩
    · obtain ⟨u, _, rfl⟩ := List.mem_map.1 hy
      rfl
    · have hj0 : j = 0 := by omega
      subst hj0
      rw [hsz] at hi
      have hi' : i < s.data.toList.length := by rw [Array.length_toList]; exact hi
      simp only [Nat.mul_one, Nat.add_zero, List.getD_eq_getElem?_getD, List.getElem?_map, List.getElem?_eq_getElem hi', Option.map_some, Option.getD_some]
      have hc : (Lib.strCells s)[i]? = some (.int .u8 (s.data.toList[i].toNat : Int)) := by
        simp [Lib.strCells, List.getElem?_map, List.getElem?_eq_getElem hi']
      rw [hc]
      exact .int _ _
    · rw [hsz] at h1 h2 ⊢
      exact run_append_nil_string w t tt ty e i z hu hus hi hz s hn0 h1 h2
    · rw [hsz] at h3 h4 h5 ⊢
      exact Lib.run_append_grow_string (P := P) w t tt ty e i z hu hus hi hz b' sLen sCap olds h1 h2 s h3 h4 h5
    · rw [hsz] at h2 ⊢
      rw [hs, Nat.mul_one, Lib.strCells_length] at h3 ⊢
      exact Lib.run_append_room_string (P := P) w t tt ty e i hu hus hi hs g sLen sCap cur h1 s h2 h3

theorem absSrc_sound (hR : HR w A M B H) {t tt ty e : TypeId} {te : TI} (hte : tinfo P e = some te) (hpos : 0 < te.sz) (hu : P.underlying t = some (.slice e)) {i0 : TypeInfo} (hi0 : P.info? e = some i0) {v : Value} {x : AV} {ys : List AV} {pm : Bool} (hx : Rel w A M v x) (h : absSrc P H t tt e te.sz x = some (ys, pm)) :
    ASrc P w A M t tt ty e te.sz v ys pm := by
  unfold absSrc at h
  split at h
  · rename_i htt
    subst htt
    exact asrc_elems hR hpos hu hi0 hx h
  · split at h
    case h_2 => simp at h
    rename_i tj te' s htj hte'
    split at h
    case h_2 => simp at h
    rename_i hd1 hd2
    split at h
    case isFalse => simp at h
    rename_i hsz
    rw [hte] at hte'
    obtain rfl := (Option.some.injEq _ _).mp hte'
    simp only [Option.some.injEq, Prod.mk.injEq] at h
    obtain ⟨rfl, rfl⟩ := h
    have hus : P.underlying tt = some .string := by rw [tinfo_d htj, hd1]
    cases hx with
    | str s =>
      rw [hsz]
      exact asrc_str hu hus hi0 s

theorem append_core (hR : HR w A M B H) (hB : B ≤ w.heap.size) {o : Oper} {ρc : Operand → Value} {c : Call} {t tt e : TypeId} {te : TI} {os ox : Operand} {xs r : AV} {ys : List AV} {pm : Bool} {H' : List Box} (ho : o.op = .call c) (hcal : c.callee = .builtin .append)
    (hts : c.argTypes.toList = [t, tt]) (has : c.args.toList = [os, ox]) (hs : Rel w A M (ρc os) xs) (hte : tinfo P e = some te) (hu : P.underlying t = some (.slice e))
    (hsrc : ∀ v, v = ρc ox → ASrc P w A M t tt o.type e te.sz v ys pm) (h : absApp H e te xs ys pm = some (r, H')) :
    Writes P o ρc w A M B r H' := by
  unfold absApp at h
  obtain ⟨i, z, hi1, hi2, hi3, hi4, hi5, hi6, _⟩ := tinfo_spec hte
  have hts' : c.argTypes = #[t, tt] := by apply Array.ext'; simpa using hts
  have has' : c.args = #[os, ox] := by apply Array.ext'; simpa using has
  have hrunE : ∀ v w', (Builtin.append_ #[t, tt] o.type #[ρc os, ρc ox]).run P w = .ok v w' → (execOp ρc o).run P w = .ok (.value v) w' := by
    intro v w' hv
    simp [execOp, ho, resolve, hcal, hts', has', invoke, builtin, hv, Go.resolve]
  replace hsrc := hsrc _ rfl
  split at h
  · -- onto nil
    have hsv : ρc os = .slice none 0 0 := by
      generalize ρc os = v at hs
      cases hs; rfl
    rw [hsv] at hrunE
    split at h
    case isFalse => simp at h
    rename_i hc0
    obtain ⟨hpos, hby, hln, hzok⟩ := hc0
    simp only [Option.some.injEq, Prod.mk.injEq] at h; obtain ⟨rfl, rfl⟩ := h
    rcases hsrc with ⟨rfl, hz0⟩ | ⟨hn0, hok, news, hnl, hnr, hruns⟩
    · obtain ⟨g1, g2, g3⟩ := hR.virt te.sz e pm
      exact ⟨_, w, A, _, .slice none 0 0, hrunE _ _ (hz0 none 0 0 (Nat.le_refl _)), .inl rfl, Below.refl _ _, g2.ext, fun _ _ => Iff.rfl, fun _ _ _ => rfl, g2.touch, g1, g3 none⟩
    have hsm : ys.length ≤ 4611686018427387904 := hln
    have hrz : Rel w A M z te.zero := by rw [hi6]; exact rel_avOf w A M z
    obtain ⟨hzc, _⟩ := hrz.cells (okElem_one hzok)
    have hzl := okElem_len hzok
    have hrun := (hruns i z hi1 hi3 hi4.symm).nil (by omega) (by rw [← hi5]; omega)
    have hge := grownCap_ge w ys.length 0 e
    have hcm := grownCap_le_maxLen w ys.length 0 e (by unfold maxLen; omega)
    generalize hcap : grownCap w ys.length 0 e = cap at hrun hge hcm
    have hlt : H.length < (H ++ [(⟨0, te.sz, e, ys, false, pm⟩ : Box)]).length := by simp
    have hR' : HR w.drew A M B (H ++ [⟨0, te.sz, e, ys, false, pm⟩]) := hR.drew.ext fun id m hm => by
      have : id < H.length := by
        rcases Nat.lt_or_ge id H.length with h' | h'
        · exact h'
        · rw [hR.none_of_length h'] at hm; simp at hm
      rw [List.getElem?_append_left this]
    have hzsz : (Builtin.zeroCells z.cells (cap - ys.length)).size = (cap - ys.length) * te.sz := by rw [size_zeroCells]; congr 1; omega
    have hst := alloc_step (bx := ⟨0, te.sz, e, ys, false, pm⟩) (nid := H.length) (c := news.toArray ++ Builtin.zeroCells z.cells (cap - ys.length)) (cap := cap) hR' (by simpa using hB) (hR.none_of_length (Nat.le_refl _)) (by simp) hcm
      (by rw [Array.size_append, List.size_toArray, hnl, hzsz, ← Nat.add_mul]; congr 1; omega) hge hok
      (fun i' j hi' hj => by
        have hk : i' * te.sz + j < ys.length * te.sz := idx_lt hi' hj
        have e1 : (news.toArray ++ Builtin.zeroCells z.cells (cap - ys.length)).getD (i' * te.sz + j) undef = news.getD (i' * te.sz + j) undef := by
          simp only [Array.getD_eq_getD_getElem?, Array.getElem?_append, List.size_toArray, hnl, hk, if_true, List.getElem?_toArray, List.getD_eq_getElem?_getD]
        rw [e1]
        exact (hnr _ _ hi' hj).grow ⟨rfl, rfl, rfl, Nat.le_refl _, fun _ _ => rfl⟩)
    obtain ⟨s1, s2, s3, s4, s5⟩ := hst
    have hbel : Below w.heap.size w (w.drew.alloc (.cells (news.toArray ++ Builtin.zeroCells z.cells (cap - ys.length)) e)) := ((Below.refl _ _).drew).alloc (by simp) _
    exact ⟨_, _, _, _, _, hrunE _ _ hrun, .inl rfl, hbel.mono hB, s1, s2, fun b hb _ => hbel.block b hb, .of_new hbel (fun id m' hm' => by
      by_cases hid : id = H.length
      · subst hid; exact s3.2 m' hm'
      · rw [s3.1 id hid] at hm'; exact .inl hm'), s4, .osl _ H.length 0 0 ys.length _ s5 (Nat.le_refl _) rfl fun _ => ⟨by simpa using hge, some ⟨w.heap.size, 0, none⟩, by simp, fun _ => by simp⟩⟩
  · rename_i id ver off len
    split at h
    case h_2 => simp at h
    rename_i bx hbx
    split at h
    case isFalse => simp at h
    rename_i hc0
    obtain ⟨rfl, hlen, hfz, hsz, hty, hpos, hby, hln, hzok⟩ := hc0
    simp only [Option.some.injEq, Prod.mk.injEq] at h; obtain ⟨rfl, rfl⟩ := h
    obtain ⟨m, a, hm, hbat, hfit, hsv, ha⟩ := osl_at hR hs hbx
    obtain ⟨hb1, hb2⟩ := getBox_some hbx
    simp only [Nat.sub_zero, Nat.zero_add] at hsv hfit
    have hms : m.sz = te.sz := by rw [← hbat.sz, hsz]
    have hmt : m.ty = e := by rw [← hbat.ty, hty]
    have hmv : m.ver = ver := by rw [← hbat.ver, hb2]
    have hlsm : len + ys.length ≤ 4611686018427387904 := hln
    have hid : id < H.length := by
      rcases Nat.lt_or_ge id H.length with h' | h'
      · exact h'
      · rw [List.getElem?_eq_none h'] at hb1; simp at hb1
    -- the box moves into a new block
    have moved : ∀ (c1 : Array Value) (cap : Nat), c1.size = cap * te.sz → len + ys.length ≤ cap → cap ≤ maxLen → (∀ y, y ∈ ys → y.okElem te.sz = true) →
        (∀ i j, i < (bx.xs ++ ys).length → j < te.sz → Rel w A (MP M (bx.pm && pm)) (c1.getD (i * te.sz + j) undef) (((bx.xs ++ ys).getD i .top).cells.getD j .top)) →
        (Builtin.append_ #[t, tt] o.type #[ρc os, ρc ox]).run P w = .ok (.slice (some ⟨w.heap.size, 0, none⟩) (len + ys.length) cap) (w.drew.alloc (.cells c1 e)) →
        Writes P o ρc w A M B (.osl id (ver + 1) 0 (len + ys.length)) (H.set id ⟨ver + 1, te.sz, e, bx.xs ++ ys, false, bx.pm && pm⟩) := by
      intro c1 cap hc1s hge hcm hok hrel hrun
      have hbel : Below w.heap.size w (w.drew.alloc (.cells c1 e)) := ((Below.refl _ _).drew).alloc (by simp) _
      let m1 : MB := ⟨w.heap.size, ver + 1, te.sz, cap, e⟩
      have hext : MExt M (MSet M id m1) := mext_set hm (.inr (by simp [m1, hmv]))
      have hA : ∀ b, b < w.heap.size → (APut A w.heap.size false b → A b) := fun b hb h => by
        rcases h with h | ⟨h, _⟩
        · exact h
        · omega
      have hrelup : ∀ u x, Rel w A (MP M (bx.pm && pm)) u x → Rel (w.drew.alloc (.cells c1 e)) (APut A w.heap.size false) (MP (MSet M id m1) (bx.pm && pm)) u x := fun u x hr => hr.mono (fun b hb _ => hbel.block b hb) hbel.size hA (mext_mp hext _)
      refine ⟨_, _, APut A w.heap.size false, MSet M id m1, _, hrunE _ _ hrun, .inl rfl, hbel.mono hB, hext, fun b hb => ⟨hA b hb, .inl⟩, fun b hb _ => hbel.block b hb, .of_new hbel (fun i m' hm' => ?_), ⟨?_, ?_, ?_⟩, .osl _ id (ver + 1) 0 (len + ys.length) m1 (by simp [MSet]) (Nat.le_refl _) rfl fun _ => ⟨by simpa [m1] using hge, some ⟨w.heap.size, 0, none⟩, by simp [m1], fun _ => by simp [m1]⟩⟩
      · by_cases hii : i = id
        · subst hii
          have : m' = m1 := by simp [MSet] at hm'; exact hm'.symm
          subst this
          exact .inr (Nat.le_refl _)
        · exact .inl (by simpa [MSet, hii] using hm')
      · intro i' m2 hm2
        by_cases hii : i' = id
        · subst hii
          have : m2 = m1 := by simp [MSet] at hm2; exact hm2.symm
          subst this
          refine ⟨_, by rw [List.getElem?_set_self hid], ⟨rfl, rfl, rfl, hcm, by simp [m1]; omega, okElem_append (fun x hx => by have := hbat.ok x hx; rwa [hms] at this) hok, fun _ => by simpa [m1] using hB, fun _ => by simp [m1], fun _ => ⟨c1, by simpa [m1] using heap_alloc_new w.drew (.cells c1 e), by simpa [m1] using hc1s, ?_⟩, fun _ => ⟨fun _ => .inr ⟨rfl, rfl⟩, fun _ => rfl⟩⟩⟩
          intro i j hi hj
          exact hrelup _ _ (hrel i j hi hj)
        · have hm3 : M i' = some m2 := by simpa [MSet, hii] using hm2
          obtain ⟨bx2, g1, g2⟩ := hR.box i' m2 hm3
          exact ⟨bx2, by rw [List.getElem?_set_ne (Ne.symm hii)]; exact g1, g2.mono (fun h0 => hbel.block _ (g2.lt h0)) (fun b hb _ => hbel.block b hb) hbel.size hA (fun h0 => ⟨fun hf => .inl ((g2.guard h0).1 hf), fun hf => (g2.guard h0).2 (hA _ (g2.lt h0) hf)⟩) hext⟩
      · intro i' i'' m2 m3 hm2 hm3 c1' c2' he
        by_cases hi' : i' = id <;> by_cases hi'' : i'' = id
        · rw [hi', hi'']
        · exfalso
          have g1 : m2 = m1 := by simp [MSet, hi'] at hm2; exact hm2.symm
          have g2 : M i'' = some m3 := by simpa [MSet, hi''] using hm3
          obtain ⟨bx2, _, g3⟩ := hR.box i'' m3 g2
          have := g3.lt c2'
          rw [← he, g1] at this
          simp [m1] at this
        · exfalso
          have g1 : m3 = m1 := by simp [MSet, hi''] at hm3; exact hm3.symm
          have g2 : M i' = some m2 := by simpa [MSet, hi'] using hm2
          obtain ⟨bx2, _, g3⟩ := hR.box i' m2 g2
          have := g3.lt c1'
          rw [he, g1] at this
          simp [m1] at this
        · exact hR.inj i' i'' m2 m3 (by simpa [MSet, hi'] using hm2) (by simpa [MSet, hi''] using hm3) c1' c2' he
      · intro b hb
        rcases hb with hb | ⟨rfl, _⟩
        · have := hR.lt b hb; simp; omega
        · simp
    rcases Nat.eq_zero_or_pos m.cap with hcap0 | hcap0
    · -- no block yet
      have hx0 : bx.xs = [] := List.eq_nil_of_length_eq_zero (by omega)
      have hl0 : len = 0 := by omega
      subst hl0
      rw [hcap0] at hsv
      rcases hsrc with ⟨rfl, hz0⟩ | ⟨hn0, hok, news, hnl, hnr, hruns⟩
      · obtain ⟨g1, g2, g3⟩ := bump_step (m' := ⟨m.b, ver + 1, m.sz, m.cap, m.ty⟩) (bx' := ⟨ver + 1, te.sz, e, bx.xs ++ [], false, bx.pm && pm⟩) hR hcap0 hm hb1 rfl rfl (.inr (by simp [hmv])) rfl hms.symm hmt.symm (by simp [hx0])
        exact ⟨_, _, A, _, _, hrunE _ _ (by rw [hsv]; simpa using hz0 a 0 0 (Nat.le_refl _)), .inl rfl, Below.refl _ _, g2, fun _ _ => Iff.rfl, fun _ _ _ => rfl, g3, g1, .osl _ id (ver + 1) 0 0 ⟨m.b, ver + 1, m.sz, m.cap, m.ty⟩ (by simp [MSet]) (Nat.le_refl _) rfl fun _ => ⟨by simp, a, by simp [hcap0], fun h => by simp at h; omega⟩⟩
      · have hrz : Rel w A M z te.zero := by rw [hi6]; exact rel_avOf w A M z
        obtain ⟨hzc, _⟩ := hrz.cells (okElem_one hzok)
        have hzl := okElem_len hzok
        have hge := grownCap_ge w (0 + ys.length) 0 e
        have hcm := grownCap_le_maxLen w (0 + ys.length) 0 e (by unfold maxLen; omega)
        have hzsz : (Builtin.zeroCells z.cells (grownCap w (0 + ys.length) 0 e - ys.length)).size = (grownCap w (0 + ys.length) 0 e - ys.length) * te.sz := by rw [size_zeroCells]; congr 1; omega
        refine moved (news.toArray ++ Builtin.zeroCells z.cells (grownCap w (0 + ys.length) 0 e - ys.length)) (grownCap w (0 + ys.length) 0 e) (by rw [Array.size_append, List.size_toArray, hnl, hzsz, ← Nat.add_mul]; congr 1; omega) hge hcm hok (fun i' j hi' hj => ?_) ?_
        · rw [hx0, List.nil_append] at hi' ⊢
          have hk : i' * te.sz + j < ys.length * te.sz := idx_lt hi' hj
          have e1 : (news.toArray ++ Builtin.zeroCells z.cells (grownCap w (0 + ys.length) 0 e - ys.length)).getD (i' * te.sz + j) undef = news.getD (i' * te.sz + j) undef := by
            simp only [Array.getD_eq_getD_getElem?, Array.getElem?_append, List.size_toArray, hnl, hk, if_true, List.getElem?_toArray, List.getD_eq_getElem?_getD]
          rw [e1]
          exact (hnr _ _ hi' hj).mp_and'
        · rw [hsv]
          cases a with
          | none =>
            have hrun := (hruns i z hi1 hi3 hi4.symm).nil (by omega) (by rw [← hi5]; simp at hby; omega)
            simpa using hrun
          | some a =>
            have hrun := (hruns i z hi1 hi3 hi4.symm).grow a 0 0 [] (by simp) (by simp) (by omega) (by omega) (growslice_fits (by omega) (by rw [← hi5]; exact hby))
            simpa using hrun
    have haa := ha hcap0; subst haa
    simp only [Nat.zero_mul] at hsv
    obtain ⟨c0, h1, h2, h3⟩ := hbat.cells hcap0
    have hAm : A m.b := (hbat.guard hcap0).1 hfz
    rw [hms] at h2 h3
    rw [hmt] at h1
    -- in place, with the news written behind
    have inplace : ∀ (news : List Value), news.length = ys.length * te.sz → (∀ y, y ∈ ys → y.okElem te.sz = true) → len + ys.length ≤ m.cap →
        (∀ i j, i < ys.length → j < te.sz → Rel w A (MP M pm) (news.getD (i * te.sz + j) undef) ((ys.getD i .top).cells.getD j .top)) →
        (Builtin.append_ #[t, tt] o.type #[ρc os, ρc ox]).run P w = .ok (.slice (some ⟨m.b, 0, none⟩) (len + ys.length) m.cap) (w.setRow m.b (splice c0.toList (len * te.sz) news).toArray) →
        Writes P o ρc w A M B (.osl id (ver + 1) 0 (len + ys.length)) (H.set id ⟨ver + 1, te.sz, e, bx.xs ++ ys, false, bx.pm && pm⟩) := by
      intro news hnl hok hroom hnew hrun
      have hoff : len * te.sz + news.length ≤ c0.toList.length := by
        have hll : c0.toList.length = m.cap * te.sz := by simpa using h2
        rw [hnl, ← Nat.add_mul, hll]
        exact Nat.mul_le_mul_right _ hroom
      obtain ⟨g1, g2, g3, g4, gt, g5⟩ := write_step (m' := ⟨m.b, ver + 1, m.sz, m.cap, m.ty⟩) (bx' := ⟨ver + 1, te.sz, e, bx.xs ++ ys, false, bx.pm && pm⟩) hR hcap0 hm hb1 hbat hfz (c' := (splice c0.toList (len * te.sz) news).toArray) rfl rfl rfl rfl (.inr (by simp [hmv]))
        rfl hms.symm hmt.symm rfl (by simp; omega) (by rw [hms]; exact okElem_append (fun x hx => by rw [← hms]; exact hbat.ok x hx) hok)
        (by have := splice_length hoff; simp at this ⊢; rw [this, h2, hms])
        (by
          rw [hms]
          intro i j hi hj
          rw [getD_toArray]
          refine append_rel (M := MP M (bx.pm && pm)) (c := c0.toList) hnl (fun i j hi hj => by rw [getD_toList]; exact (h3 i j hi hj).mp_and) (fun i j hi hj => (hnew i j hi hj).mp_and') (fun k hk => ?_) (fun k hk => ?_) i j hi hj
          · rw [splice_getD hoff, if_neg (by rw [hlen]; omega)]
          · rw [splice_getD hoff, if_pos (by rw [hlen, hnl]; omega), ← hlen, show len * te.sz + k - len * te.sz = k by omega])
      exact ⟨_, _, A, _, _, hrunE _ _ hrun, .inl rfl, g4, g2, fun _ _ => Iff.rfl, g3, gt, g1, .osl _ id (ver + 1) 0 (len + ys.length) ⟨m.b, ver + 1, m.sz, m.cap, m.ty⟩ (by simp [MSet]) (Nat.le_refl _) rfl fun _ => ⟨by simpa using hroom, some ⟨m.b, 0, none⟩, by simp, fun _ => by simp⟩⟩
    have hlc : len ≤ m.cap := hfit
    rcases hsrc with ⟨rfl, hz0⟩ | ⟨hn0, hok, news, hnl, hnr, hruns⟩
    · refine inplace [] (by simp) (by simp) (by simpa using hlc) (by simp) ?_
      have hsp : (splice c0.toList (len * te.sz) []).toArray = c0 := by simp [splice]
      have hself : w.setRow m.b c0 = w := setRow_self w m.b c0 e (0, 0) h1
      rw [hsp, hself, hsv]
      simpa using hz0 (some ⟨m.b, 0, none⟩) len m.cap hlc
    · by_cases hroom : len + ys.length ≤ m.cap
      · refine inplace news (hnl) hok hroom (fun i j hi hj => hnr _ _ hi hj) ?_
        have hfitc : len * i.size + news.length ≤ c0.size := by
          rw [hnl, ← hi4, ← Nat.add_mul, h2]
          exact Nat.mul_le_mul_right _ hroom
        have := (hruns i z hi1 hi3 hi4.symm).room m.b len m.cap c0 h1 hroom hfitc
        rw [hsv, this]
        rw [← hi4]
        rfl
      · have holds : ∀ j u, (c0.toList.take (len * te.sz))[j]? = some u → w.cell? ((⟨m.b, 0, none⟩ : Addr).add j) = some u := by
          intro j u hu'
          rw [List.getElem?_take] at hu'
          split at hu'
          · rw [addr_add, Nat.zero_add]
            simp [World.cell?, h1]
            simpa using hu'
          · simp at hu'
        have hol : (c0.toList.take (len * te.sz)).length = len * te.sz := by
          simp only [List.length_take, Array.length_toList, h2]
          have : len * te.sz ≤ m.cap * te.sz := Nat.mul_le_mul_right _ hlc
          omega
        have hrun := (hruns i z hi1 hi3 hi4.symm).grow ⟨m.b, 0, none⟩ len m.cap (c0.toList.take (len * te.sz)) (by rw [hol, hi4]) holds (by omega) (by omega) (growslice_fits (by omega) (by rw [← hi5]; exact hby))
        have hge := grownCap_ge w (len + ys.length) m.cap e
        have hcm := grownCap_le_maxLen w (len + ys.length) m.cap e (by unfold maxLen; omega)
        generalize hcap : grownCap w (len + ys.length) m.cap e = cap at hrun hge hcm
        have hrz : Rel w A M z te.zero := by rw [hi6]; exact rel_avOf w A M z
        obtain ⟨hzc, _⟩ := hrz.cells (okElem_one hzok)
        have hzl := okElem_len hzok
        have hzsz : (Builtin.zeroCells z.cells (cap - (len + ys.length))).size = (cap - (len + ys.length)) * te.sz := by rw [size_zeroCells]; congr 1; omega
        generalize hcc : (c0.toList.take (len * te.sz)).toArray ++ news.toArray ++ Builtin.zeroCells z.cells (cap - (len + ys.length)) = c1 at hrun
        have hc1s : c1.size = cap * te.sz := by
          rw [← hcc]
          simp only [Array.size_append, List.size_toArray, hol, hnl, hzsz, ← Nat.add_mul]
          congr 1
          omega
        have hc1a : ∀ k, k < bx.xs.length * te.sz → c1.toList.getD k undef = c0.toList.getD k undef := by
          intro k hk
          rw [← hlen] at hk
          rw [← hcc]
          simp only [Array.toList_append, List.append_assoc, List.getD_eq_getElem?_getD, List.getElem?_append, hol, hk, if_true, List.getElem?_take]
        have hc1b : ∀ k, k < ys.length * te.sz → c1.toList.getD (bx.xs.length * te.sz + k) undef = news.getD k undef := by
          intro k hk
          rw [← hlen, ← hcc]
          simp only [Array.toList_append, List.append_assoc, List.getD_eq_getElem?_getD, List.getElem?_append, hol, show ¬ len * te.sz + k < len * te.sz by omega, if_false, hnl, show len * te.sz + k - len * te.sz = k by omega, hk, if_true]
        refine moved c1 cap hc1s hge hcm hok (fun i j hi hj => ?_) (by rw [hsv]; exact hrun)
        rw [← getD_toList]
        exact append_rel (M := MP M (bx.pm && pm)) (c := c0.toList) (hnl) (fun i j hi hj => by rw [getD_toList]; exact (h3 i j hi hj).mp_and) (fun i j hi hj => (hnr _ _ hi hj).mp_and') hc1a hc1b i j hi hj
  · simp at h

theorem append_sound (hR : HR w A M B H) (hB : B ≤ w.heap.size) {o : Oper} {ρc : Operand → Value} {c : Call} {t tt : TypeId} {os ox : Operand} {xs xx r : AV} {H' : List Box} (ho : o.op = .call c) (hcal : c.callee = .builtin .append)
    (hts : c.argTypes.toList = [t, tt]) (has : c.args.toList = [os, ox]) (hs : Rel w A M (ρc os) xs) (hx : Rel w A M (ρc ox) xx) (h : absAppend P H t tt xs xx = some (r, H')) :
    Writes P o ρc w A M B r H' := by
  unfold absAppend at h
  split at h
  case h_2 => simp at h
  rename_i ti hti
  split at h
  case h_2 => simp at h
  rename_i e hd
  split at h
  case h_2 => simp at h
  rename_i te hte
  split at h
  case h_2 => simp at h
  rename_i ys pm hys
  have hu : P.underlying t = some (.slice e) := by rw [tinfo_d hti, hd]
  have hpos : 0 < te.sz := by
    unfold absApp at h
    split at h
    · split at h
      case isFalse => simp at h
      rename_i hc; exact hc.1
    · split at h
      case h_2 => simp at h
      split at h
      case isFalse => simp at h
      rename_i hc; exact hc.2.2.2.2.2.1
    · simp at h
  obtain ⟨i, z, hi1, _⟩ := tinfo_spec hte
  exact append_core hR hB ho hcal hts has hs hte hu (fun v hv => by subst hv; exact absSrc_sound hR hte hpos hu hi1 hx hys) h

theorem zeroCells_getD {z : Array Value} {n k : Nat} (hk : k < n * z.size) (hz : 0 < z.size) : (Builtin.zeroCells z n).getD k undef = z.getD (k % z.size) undef := by
  have hm : k % z.size < z.size := Nat.mod_lt _ hz
  simp [Builtin.zeroCells, Array.getD_eq_getD_getElem?, hk, hm]

theorem clear_sound (hR : HR w A M B H) {o : Oper} {ρc : Operand → Value} {c : Call} {t : TypeId} {ox : Operand} {xx : AV} {H' : List Box} (ho : o.op = .call c) (hcal : c.callee = .builtin .clear)
    (hts : c.argTypes.toList = [t]) (has : c.args.toList = [ox]) (hx : Rel w A M (ρc ox) xx) (h : absClear P H t xx = some H') : Writes P o ρc w A M B (.tuple []) H' := by
  unfold absClear at h
  split at h
  case h_2 => simp at h
  rename_i ti hti
  split at h
  case h_2 => simp at h
  rename_i e hd
  split at h
  case h_2 => simp at h
  rename_i te hte
  split at h
  case h_2 => simp at h
  rename_i id ver off len
  split at h
  case h_2 => simp at h
  rename_i bx hbx
  split at h
  case isFalse => simp at h
  rename_i hc0
  obtain ⟨hfz, hsz, hlen, hzok, hzp⟩ := hc0
  simp only [Option.some.injEq] at h; subst h
  have hu : P.underlying t = some (.slice e) := by rw [tinfo_d hti, hd]
  obtain ⟨i, z, hi1, hi2, hi3, hi4, hi5, hi6, _⟩ := tinfo_spec hte
  have hts' : c.argTypes = #[t] := by apply Array.ext'; simpa using hts
  have has' : c.args = #[ox] := by apply Array.ext'; simpa using has
  have hrunE : ∀ v w', (Builtin.clear_ #[t] o.type #[ρc ox]).run P w = .ok v w' → (execOp ρc o).run P w = .ok (.value v) w' := by
    intro v w' hv
    simp [execOp, ho, resolve, hcal, hts', has', invoke, builtin, hv, Go.resolve]
  obtain ⟨m, a, hm, hbat, hfit, hsv, ha⟩ := osl_at hR hx hbx
  obtain ⟨hb1, hb2⟩ := getBox_some hbx
  have hms : m.sz = te.sz := by rw [← hbat.sz, hsz]
  rcases Nat.eq_zero_or_pos len with rfl | hlen0
  · have he : (⟨ver, bx.sz, bx.ty, bx.xs.take off ++ (List.replicate 0 te.zero ++ bx.xs.drop (off + 0)), false, bx.pm⟩ : Box) = bx := by
      cases bx; simp_all
    have hset : H.set id bx = H := by
      apply List.ext_getElem?
      intro k
      by_cases hk : id = k
      · subst hk
        rw [hb1, List.getElem?_set_self]
        rcases Nat.lt_or_ge id H.length with h' | h'
        · exact h'
        · rw [List.getElem?_eq_none h'] at hb1; simp at hb1
      · rw [List.getElem?_set_ne hk]
    rw [he, hset]
    have hrun : (Builtin.clear_ #[t] o.type #[ρc ox]).run P w = .ok (.tuple #[]) w := by
      rw [hsv]; cases a <;> simp [Builtin.clear_, run_underlying hu]
    exact ⟨_, w, A, M, .tuple #[], hrunE _ _ hrun, .inl rfl, Below.refl _ _, MExt.refl _, fun _ _ => Iff.rfl, fun _ _ _ => rfl, Touch.of_new (Below.refl _ _) (fun id m hm => .inl hm), hR, .tuple #[] [] rfl (by simp)⟩
  · have hoff : off < m.cap := by have := hbat.fits; omega
    have hcap0 : 0 < m.cap := by omega
    have haa := ha hoff; subst haa
    obtain ⟨cc, h1, h2, h3⟩ := hbat.cells hcap0
    have hrz : Rel w A M z te.zero := by rw [hi6]; exact rel_avOf w A M z
    obtain ⟨hzc, hzr⟩ := hrz.cells (okElem_one hzok)
    have hzl := okElem_len hzok
    have hzs : z.cells.size = m.sz := by omega
    have hnl : (Builtin.zeroCells z.cells len).toList.length = len * m.sz := by simp [size_zeroCells, hzs]
    have hoffc : off * m.sz + (Builtin.zeroCells z.cells len).toList.length ≤ cc.toList.length := by
      rw [hnl, ← Nat.add_mul, Array.length_toList, h2]
      exact Nat.mul_le_mul_right _ (by have := hbat.fits; omega)
    have hone : ∀ u, u ∈ (Builtin.zeroCells z.cells len).toList → u.oneCell' = true := fun u hu => by
      obtain ⟨k, hk, rfl⟩ := List.mem_iff_getElem.1 hu
      rw [hnl] at hk
      have hz0 : 0 < z.cells.size := by
        rcases Nat.eq_zero_or_pos z.cells.size with h0 | h0
        · rw [← hzs, h0] at hk; simp at hk
        · exact h0
      have hg := zeroCells_getD (z := z.cells) (n := len) (k := k) (by rw [hzs]; exact hk) hz0
      have e1 : (Builtin.zeroCells z.cells len).toList[k]'(by rw [hnl]; exact hk) = z.cells.getD (k % z.cells.size) undef := by
        rw [← hg]; simp [Array.getD_eq_getD_getElem?, size_zeroCells, hzs, hk]
      rw [e1]
      have hmod : k % z.cells.size < te.zero.cells.length := by rw [← hzc]; exact Nat.mod_lt _ hz0
      refine (hzr _ hmod).oneCell ?_
      have := okElem_one hzok
      rw [List.all_eq_true] at this
      exact this _ (getD_mem hmod)
    have hst := run_storeCells_at P m.b (off * m.sz) m.ty (Builtin.zeroCells z.cells len).toList 0 cc w h1 (by simpa using hoffc) hone
    simp only [Nat.add_zero] at hst
    have hxl : (bx.xs.take off).length = off := by simp; omega
    obtain ⟨g1, g2, g3, g4, gt, g5⟩ := write_step (m' := m) (bx' := ⟨ver, bx.sz, bx.ty, bx.xs.take off ++ (List.replicate len te.zero ++ bx.xs.drop (off + len)), false, bx.pm⟩) hR hcap0 hm hb1 hbat hfz (c' := (splice cc.toList (off * m.sz) (Builtin.zeroCells z.cells len).toList).toArray) rfl rfl rfl rfl (.inl rfl)
      (by rw [← hbat.ver, ← hb2]) hbat.sz hbat.ty rfl (by have := hbat.fits; simp; omega)
      (fun x hx => by
        rcases List.mem_append.1 hx with hx | hx
        · exact hbat.ok x (List.mem_of_mem_take hx)
        · rcases List.mem_append.1 hx with hx | hx
          · rw [(List.mem_replicate.1 hx).2, hms]; exact hzok
          · exact hbat.ok x (List.mem_of_mem_drop hx))
      (by have := splice_length hoffc; simp at this ⊢; omega)
      (fun i' j' hi' hj' => by
        have hi'' : i' < bx.xs.length := by simp at hi'; omega
        rw [getD_toArray, splice_getD hoffc, hnl]
        by_cases c1 : i' < off
        · have e1 : (bx.xs.take off ++ (List.replicate len te.zero ++ bx.xs.drop (off + len))).getD i' .top = bx.xs.getD i' .top := by
            simp [List.getD_eq_getElem?_getD, List.getElem?_append, hxl, c1, List.getElem?_take, hi'']
          have : i' * m.sz + j' < off * m.sz := idx_lt c1 hj'
          rw [if_neg (by omega), getD_toList, e1]
          exact h3 i' j' hi'' hj'
        · by_cases c2 : i' < off + len
          · have e1 : (bx.xs.take off ++ (List.replicate len te.zero ++ bx.xs.drop (off + len))).getD i' .top = (List.replicate len te.zero).getD (i' - off) .top := by
              simp [List.getD_eq_getElem?_getD, List.getElem?_append, hxl, c1, show i' - off < len by omega]
            have p1 : off * m.sz ≤ i' * m.sz := Nat.mul_le_mul_right _ (by omega)
            have p2 : i' * m.sz + j' < (off + len) * m.sz := idx_lt c2 hj'
            rw [Nat.add_mul] at p2
            rw [if_pos (by omega), e1]
            have p3 : i' * m.sz + j' - off * m.sz = (i' - off) * m.sz + j' := by rw [Nat.sub_mul]; omega
            rw [p3, getD_toList]
            have hlt : (i' - off) * m.sz + j' < len * m.sz := idx_lt (by omega) hj'
            have := rel_replicate (w := w) (A := A) (M := MP M bx.pm) (z := z) (x := te.zero) (n := len) (sz := te.sz) (by rw [hi6]; exact rel_avOf w A _ z) hzok (i := i' - off) (j := j') (by omega) (by omega) (c := Builtin.zeroCells z.cells len) (by rw [size_zeroCells, hzs, ← hms]; exact hlt)
              (fun k hk => zeroCells_getD (by rw [size_zeroCells] at hk; exact hk) (by omega))
            rw [hms]
            exact this
          · have e1 : (bx.xs.take off ++ (List.replicate len te.zero ++ bx.xs.drop (off + len))).getD i' .top = bx.xs.getD i' .top := by
              simp only [List.getD_eq_getElem?_getD, List.getElem?_append, hxl, c1, if_false, List.length_replicate, show ¬ i' - off < len by omega, List.getElem?_drop]
              congr 2; omega
            have p1 : (off + len) * m.sz ≤ i' * m.sz := Nat.mul_le_mul_right _ (by omega)
            rw [Nat.add_mul] at p1
            rw [if_neg (by omega), getD_toList, e1]
            exact h3 i' j' hi'' hj')
    have hrun : (Builtin.clear_ #[t] o.type #[ρc ox]).run P w = .ok (.tuple #[]) (w.setRow m.b (splice cc.toList (off * m.sz) (Builtin.zeroCells z.cells len).toList).toArray) := by
      obtain ⟨n, rfl⟩ : ∃ n, len = n + 1 := ⟨len - 1, by omega⟩
      have hzr' : (zeroValue e).run P w = .ok z w := by simp [zeroValue, typeInfo, hi1, hi3]
      rw [hsv]
      simp only [Builtin.clear_, List.getElem?_toArray, List.getElem?_cons_zero, Sem.run_bind, run_underlying hu, Result.andThen_ok, hzr', hst]
      rfl
    exact ⟨_, _, A, _, .tuple #[], hrunE _ _ hrun, .inl rfl, g4, g2, fun _ _ => Iff.rfl, g3, gt, g1, .tuple #[] [] rfl (by simp)⟩

theorem iop_sound (hR : HR w A M B H) (hB : B ≤ w.heap.size) {ρ : Operand → AV} {ρc : Operand → Value} {o : Oper} {x : AV} {H' : List Box} (hρ : ∀ a, Rel w A M (ρc a) (ρ a)) (h : iop P ρ H o.op = some (x, H')) : Writes P o ρc w A M B x H' := by
  unfold iop at h
  split at h
  · rename_i t a v ho
    split at h
    case h_2 => simp at h
    rename_i H2 hst
    simp only [Option.some.injEq, Prod.mk.injEq] at h; obtain ⟨rfl, rfl⟩ := h
    exact store_sound hR ho (hρ a) (hρ v) hst
  · rename_i c ho
    split at h
    case h_2 => simp at h
    rename_i b hcal
    split at h
    · rename_i t t' s y hts has
      exact append_sound hR hB ho hcal hts has (hρ s) (hρ y) h
    · rename_i t x hts has
      split at h
      case h_2 => simp at h
      rename_i H2 hst
      simp only [Option.some.injEq, Prod.mk.injEq] at h; obtain ⟨rfl, rfl⟩ := h
      exact clear_sound hR ho hcal hts has (hρ x) hst
    · simp at h
  · simp at h

end
end Go.Sim
/- States, contracts, and single operations in a state. -/
set_option linter.unusedVariables false
set_option linter.unusedSimpArgs false
set_option linter.unnecessarySimpa false
namespace Go.Sim
open Go.RowKit

structure St where
  tmps : List AV
  heap : List Box

/-- What stays true of every world, and how many boxes a run keeps under their first numbers. -/
structure IV where
  inv : World → Prop
  pin : Nat

instance : CoeFun IV fun _ => World → Prop := ⟨IV.inv⟩

/-- What the caller avoids; the world, what was to be avoided, and the caller's own boxes at the function's door: the first 'pin' of them keep their numbers. -/
structure Cx where
  av : Nat → Prop
  w1 : World
  A1 : Nat → Prop
  M1 : Nat → Option MB
  pin : Nat

/-- What has become of the world since the function's door. -/
structure Ev (C : Cx) (w : World) (A : Nat → Prop) (M : Nat → Option MB) : Prop where
  size : C.w1.heap.size ≤ w.heap.size
  keep : ∀ b, b < C.w1.heap.size → (¬ C.A1 b ∨ ∀ id m, C.M1 id = some m → 0 < m.cap → m.b ≠ b) → w.heap[b]? = C.w1.heap[b]?
  less : ∀ b, b < C.w1.heap.size → A b → C.A1 b
  more : ∀ b, b < C.w1.heap.size → C.A1 b → (∀ id m, C.M1 id = some m → 0 < m.cap → m.b ≠ b) → A b
  ids : ∀ id m, id < C.pin → C.M1 id = some m → ∃ m', M id = some m' ∧ (m' = m ∨ m.ver < m'.ver)
  src : ∀ id m', M id = some m' → 0 < m'.cap → (∃ i m, C.M1 i = some m ∧ 0 < m.cap ∧ m'.b = m.b) ∨ C.w1.heap.size ≤ m'.b

theorem Ev.refl {C : Cx} : Ev C C.w1 C.A1 C.M1 :=
  ⟨Nat.le_refl _, fun _ _ _ => rfl, fun _ _ h => h, fun _ _ h _ => h, fun _ m _ h => ⟨m, h, .inl rfl⟩, fun i m h h0 => .inl ⟨i, m, h, h0, rfl⟩⟩

theorem Ev.step {C : Cx} {w w' : World} {A A' : Nat → Prop} {M M' : Nat → Option MB} (h : Ev C w A M) (hm : Mv w A M w' A' M') : Ev C w' A' M' := by
  have out : ∀ b, b < C.w1.heap.size → (∀ id m, C.M1 id = some m → 0 < m.cap → m.b ≠ b) → ∀ id m, M id = some m → 0 < m.cap → m.b ≠ b := fun b hb hno id m hi h0 e => by
    rcases h.src id m hi h0 with ⟨i, m1, h1, h2, h3⟩ | h1
    · exact hno i m1 h1 h2 (by rw [← h3, e])
    · omega
  refine ⟨Nat.le_trans h.size hm.size, fun b hb hor => ?_, fun b hb hA => h.less b hb (hm.less b (Nat.lt_of_lt_of_le hb h.size) hA), fun b hb hA hno => hm.more b (Nat.lt_of_lt_of_le hb h.size) (h.more b hb hA hno) (out b hb hno), fun id m hi h1 => ?_, fun id m' hi h0 => ?_⟩
  · rw [← h.keep b hb hor]
    have hb' := Nat.lt_of_lt_of_le hb h.size
    rcases hor with hor | hor
    · exact hm.keep b hb' fun hA => hor (h.less b hb hA)
    · exact hm.touch.1 b hb' (out b hb hor)
  · obtain ⟨m1, h2, h3⟩ := h.ids id m hi h1
    obtain ⟨m2, h4, h5⟩ := hm.ext id m1 h2
    refine ⟨m2, h4, ?_⟩
    rcases h3 with rfl | h3 <;> rcases h5 with rfl | h5
    · exact .inl rfl
    · exact .inr h5
    · exact .inr h3
    · exact .inr (Nat.lt_trans h3 h5)
  · rcases hm.touch.2 id m' hi h0 with ⟨i, m1, h1, h2, h3⟩ | h1
    · rcases h.src i m1 h1 h2 with ⟨i2, m2, g1, g2, g3⟩ | g1
      · exact .inl ⟨i2, m2, g1, g2, by rw [h3, g3]⟩
      · exact .inr (by rw [h3]; exact g1)
    · exact .inr (Nat.le_trans h.size h1)

def St.eval (s : St) : Operand → AV
  | .tmp t => s.tmps.getD t .top
  | .const v => avOf v
  | .global g => .gptr g
  | .func f => .func f []

def putT (ts : List AV) (d : Option Tmp) (v : AV) : List AV :=
  match d with
  | some d => ts.set d v
  | none => ts

def frzIf (ids : List Nat) (i : Nat) (bx : Box) : Box := if ids.contains i = true then { bx with frz := true } else bx

def freeze (H : List Box) (ids : List Nat) : List Box := if ids.isEmpty = true then H else H.mapIdx (frzIf ids)

/-- The function has a body that a call enters. -/
def Enters (P : Program) (f : FuncId) : Prop := ∃ fn, P.funcs[f]? = some fn ∧ fn.body.isNone = false ∧ (fn.name == "runtime.NumGoroutine") = false


/-- A CONTRACT: called with values of which 'args' hold, the function returns one of which 'r' holds; the world has only grown; blocks that the caller avoids are not in the result. -/
def Good (P : Program) (Inv : IV) (f : FuncId) (args : List AV) (r : AV) : Prop :=
  Enters P f ∧ ∀ (w : World) (A : Nat → Prop) (vs : List Value), Inv w → (∀ b, A b → b < w.heap.size) → RC w A noBox vs args →
    Calls P f vs.toArray w fun e w' => ∃ v, e = .returned v ∧ Below w.heap.size w w' ∧ Rel w' A noBox v r

/-- A contract of a function that is handed boxes of the caller's own and may write them: these are all that there are, under the numbers 0, 1 .. -/
def GoodM (P : Program) (Inv : IV) (f : FuncId) (args : List AV) (H : List Box) (r : AV) (H' : List Box) : Prop :=
  Enters P f ∧ ∀ (w0 w : World) (A : Nat → Prop) (M : Nat → Option MB) (vs : List Value), Inv w0 → Below w0.heap.size w0 w → HR w A M w0.heap.size H → RC w A M vs args →
    Calls P f vs.toArray w fun e w' => ∃ v A' M', e = .returned v ∧ Below w0.heap.size w0 w' ∧ (∀ b, b < w0.heap.size → (A' b ↔ A b)) ∧ Ev ⟨A, w, A, M, H.length⟩ w' A' M' ∧ HR w' A' M' w0.heap.size H' ∧ Rel w' A' M' v r

structure InvOk (Inv : IV) : Prop where
  below : ∀ w w', Inv w → Below w.heap.size w w' → Inv w'

def callTarget (s : St) (c : Call) : Option (FuncId × List AV) :=
  match c.callee with
  | .value f => match s.eval f with
    | .func g caps => some (g, c.args.toList.map s.eval ++ caps)
    | _ => none
  | _ => none

def rfuel : Nat := 5

/-- The heap behind a call that was handed 'args' and gave 'r'. -/
def afterCall (H : List Box) (args : List AV) (r : AV) : List Box := if r.flat = true then H else freeze H (args.flatMap (reach H rfuel))

def OpF (P : Program) (Inv : IV) (s : St) (o : Oper) (s' : St) : Prop :=
  (∃ x nb, fop P s.eval s.heap s.heap.length o.op = some (x, nb) ∧ s' = ⟨putT s.tmps o.dst x, s.heap ++ nb.toList⟩) ∨
  (∃ c g args args' r, o.op = .call c ∧ callTarget s c = some (g, args) ∧ mapO (resolve s.heap rfuel) args = some args' ∧ Good P Inv g args' r ∧
    s' = ⟨putT s.tmps o.dst r, afterCall s.heap args r⟩)

/-! ### Boxes under other numbers -/

mutual
def ren (f : Nat → Nat → Option (Nat × Nat)) : AV → AV
  | .agg cs => .agg (rens f cs)
  | .own id ver i j => match f id ver with
    | some (k, v) => .own k v i j
    | none => .top
  | .osl id ver off len => match f id ver with
    | some (k, v) => .osl k v off len
    | none => .top
  | .func g cs => .func g (rens f cs)
  | .tuple vs => .tuple (rens f vs)
  | .list sz xs => .list sz xs
  | .eptr sz xs i j => .eptr sz xs i j
  | .top => .top
  | .bool b => .bool b
  | .int k n => .int k n
  | .str s => .str s
  | .nils => .nils
  | .nilptr => .nilptr
  | .nilfn => .nilfn
  | .gptr g => .gptr g
def rens (f : Nat → Nat → Option (Nat × Nat)) : List AV → List AV
  | [] => []
  | x :: xs => ren f x :: rens f xs
end

mutual
/-- Every box that it names has a new number. -/
def renOk (f : Nat → Nat → Option (Nat × Nat)) : AV → Bool
  | .agg cs => rensOk f cs
  | .own id ver _ _ => (f id ver).isSome
  | .osl id ver _ _ => (f id ver).isSome
  | .func _ cs => rensOk f cs
  | .tuple vs => rensOk f vs
  | .list _ _ => true
  | .eptr _ _ _ _ => true
  | .top => true
  | .bool _ => true
  | .int _ _ => true
  | .str _ => true
  | .nils => true
  | .nilptr => true
  | .nilfn => true
  | .gptr _ => true
def rensOk (f : Nat → Nat → Option (Nat × Nat)) : List AV → Bool
  | [] => true
  | x :: xs => renOk f x && rensOk f xs
end

def posOf : List Nat → Nat → Option Nat
  | [], _ => none
  | a :: l, x => match Nat.beq a x with
    | true => some 0
    | false => match posOf l x with
      | some j => some (j + 1)
      | none => none

def nodupB : List Nat → Bool
  | [] => true
  | a :: l => match posOf l a with
    | some _ => false
    | none => nodupB l

/-- A box under other numbers. -/
def renBox (f : Nat → Nat → Option (Nat × Nat)) (ver : Nat) (bx : Box) : Box := match bx.pm with
  | true => ⟨ver, bx.sz, bx.ty, bx.xs, bx.frz, true⟩
  | false => ⟨ver, bx.sz, bx.ty, rens f bx.xs, bx.frz, false⟩

def renBoxOk (f : Nat → Nat → Option (Nat × Nat)) (bx : Box) : Bool := match bx.pm with
  | true => true
  | false => rensOk f bx.xs

/-- Into a callee's numbers. -/
def inF (ids : List Nat) (id ver : Nat) : Option (Nat × Nat) := match posOf ids id with
  | some j => some (j, ver)
  | none => none

/-- Back out of a callee's numbers. -/
def outF (ids : List Nat) (n k : Nat) (j ver : Nat) : Option (Nat × Nat) := match ids[j]? with
  | some id => some (id, ver)
  | none => some (n + (j - k), ver)

/-- The boxes that a callee has. -/
def subBoxes (f : Nat → Nat → Option (Nat × Nat)) (H : List Box) : List Nat → Option (List Box)
  | [] => some []
  | id :: ids => match H[id]? with
    | some bx => match renBoxOk f bx with
      | true => match subBoxes f H ids with
        | some bs => some (renBox f bx.ver bx :: bs)
        | none => none
      | false => none
    | none => none

def setAllB (H : List Box) : List Nat → List Box → List Box
  | id :: ids, b :: bs => setAllB (H.set id b) ids bs
  | _, _ => H

def backBoxes (f : Nat → Nat → Option (Nat × Nat)) : List Box → List Box
  | [] => []
  | bx :: bs => renBox f bx.ver bx :: backBoxes f bs

/-- The caller's boxes behind the call. -/
def outHeap (H : List Box) (ids : List Nat) (H0' : List Box) : List Box :=
  setAllB H ids (backBoxes (outF ids H.length ids.length) H0') ++ (backBoxes (outF ids H.length ids.length) H0').drop ids.length

/-- Slices of the call's own that are handed on as slices that nobody writes: their boxes are frozen. -/
def Settled (s s1 : St) : Prop :=
  ∃ ids, s1.heap = freeze s.heap ids ∧ s1.tmps.length = s.tmps.length ∧
    ∀ t, s1.tmps.getD t .top = s.tmps.getD t .top ∨ (resolve s.heap rfuel (s.tmps.getD t .top) = some (s1.tmps.getD t .top) ∧ ∀ id, id ∈ reach s.heap rfuel (s.tmps.getD t .top) → id ∈ ids)

def OpI (P : Program) (Inv : IV) (s : St) (o : Oper) (s' : St) : Prop :=
  (∃ x H', iop P s.eval s.heap o.op = some (x, H') ∧ s' = ⟨putT s.tmps o.dst x, H'⟩) ∨
  (∃ c g args ids H0 r0 H0', o.op = .call c ∧ callTarget s c = some (g, args) ∧ nodupB ids = true ∧ subBoxes (inF ids) s.heap ids = some H0 ∧ GoodM P Inv g (rens (inF ids) args) H0 r0 H0' ∧
    s' = ⟨putT s.tmps o.dst (ren (outF ids s.heap.length ids.length) r0), outHeap s.heap ids H0'⟩) ∨
  (∃ s1 x nb, Settled s s1 ∧ fop P s1.eval s1.heap s1.heap.length o.op = some (x, nb) ∧ s' = ⟨putT s.tmps o.dst x, s1.heap ++ nb.toList⟩)

/-! ### A heap with more boxes -/

def HSub (h H : List Box) : Prop := ∀ (id : Nat) (bx : Box), h[id]? = some bx → ∃ f, H[id]? = some { bx with frz := f } ∧ (bx.frz = true → f = true)

theorem HSub.refl (h : List Box) : HSub h h := fun id bx hb => ⟨bx.frz, hb, fun e => e⟩

theorem HSub.trans {a b c : List Box} (h : HSub a b) (h' : HSub b c) : HSub a c := fun id bx hb => by
  obtain ⟨f, h1, h2⟩ := h id bx hb
  obtain ⟨f', h3, h4⟩ := h' id _ h1
  exact ⟨f', h3, fun e => h4 (h2 e)⟩

theorem HSub.append (h : List Box) (l : List Box) : HSub h (h ++ l) := fun id bx hb => by
  have : id < h.length := by
    rcases Nat.lt_or_ge id h.length with h' | h'
    · exact h'
    · rw [List.getElem?_eq_none h'] at hb; simp at hb
  exact ⟨bx.frz, by rw [List.getElem?_append_left this]; exact hb, fun e => e⟩

theorem freeze_get (H : List Box) (ids : List Nat) (id : Nat) : (freeze H ids)[id]? = (H[id]?).map (frzIf ids id) := by
  unfold freeze
  split
  · rename_i he
    have : ids = [] := by simpa using he
    subst this
    cases H[id]? <;> simp [frzIf]
  · simp [List.getElem?_mapIdx]

theorem HSub.freeze (H : List Box) (ids : List Nat) : HSub H (freeze H ids) := fun id bx hb => by
  rw [freeze_get, hb]
  unfold frzIf
  by_cases hc : ids.contains id = true
  · exact ⟨true, by simp only [Option.map_some, hc, if_true], fun _ => rfl⟩
  · exact ⟨bx.frz, by simp only [Option.map_some, hc, if_false]; rfl, fun e => e⟩

theorem freeze_length (H : List Box) (ids : List Nat) : (freeze H ids).length = H.length := by
  unfold freeze; split <;> simp

theorem HSub.box {h H : List Box} (hs : HSub h H) {id ver : Nat} {bx : Box} (hb : getBox h id ver = some bx) : ∃ f, getBox H id ver = some { bx with frz := f } := by
  obtain ⟨h1, h2⟩ := getBox_some hb
  obtain ⟨f, h3, _⟩ := hs id bx h1
  exact ⟨f, by simp [getBox, h3, h2]⟩

section mono
variable {P : Program} {h H : List Box} (hs : HSub h H)
include hs

theorem absLoadAt_mono {ti : TI} {x r : AV} (hr : absLoadAt h ti x = some r) : absLoadAt H ti x = some r := by
  cases x <;> first | exact hr | skip
  rename_i id ver i j
  simp only [absLoadAt] at hr ⊢
  cases hb : getBox h id ver with
  | none => simp [hb] at hr
  | some bx =>
    obtain ⟨f, hf⟩ := hs.box hb
    simp only [hb] at hr
    try simp only [hf]
    exact hr

theorem absSlice_mono {t : TypeId} {x r : AV} {lo hi : Option AV} (hr : absSlice P h t x lo hi = some r) : absSlice P H t x lo hi = some r := by
  unfold absSlice at hr ⊢
  split at hr
  case h_2 => simp at hr
  rename_i ti hti
  split at hr
  · rename_i s hd; (try simp only [hti, hd]); exact hr
  · rename_i e sz xs hd; (try simp only [hti, hd]); exact hr
  · rename_i e hd; (try simp only [hti, hd]); exact hr
  · rename_i e id ver off len hd
    try simp only [hti, hd]
    cases hb : getBox h id ver with
    | none => simp [hb] at hr
    | some bx =>
      obtain ⟨f, hf⟩ := hs.box hb
      simp only [hb] at hr
      simp only [hf]
      cases hte : tinfo P e <;> simp only [hte] at hr ⊢ <;> exact hr
  · simp at hr

theorem absIndexAddr_mono {t : TypeId} {x ix r : AV} (hr : absIndexAddr P h t x ix = some r) : absIndexAddr P H t x ix = some r := by
  unfold absIndexAddr at hr ⊢
  split at hr
  case h_2 => simp at hr
  rename_i ti k n hti
  split at hr
  · rename_i e sz xs hd; (try simp only [hti, hd]); exact hr
  · rename_i e id ver off len hd
    try simp only [hti, hd]
    cases hb : getBox h id ver with
    | none => simp [hb] at hr
    | some bx =>
      obtain ⟨f, hf⟩ := hs.box hb
      simp only [hb] at hr
      simp only [hf]
      cases hte : tinfo P e <;> simp only [hte] at hr ⊢ <;> exact hr
  · rename_i m e id ver i j hd
    try simp only [hti, hd]
    cases hb : getBox h id ver with
    | none => simp [hb] at hr
    | some bx =>
      obtain ⟨f, hf⟩ := hs.box hb
      simp only [hb] at hr
      simp only [hf]
      cases hte : tinfo P e <;> simp only [hte] at hr ⊢ <;> exact hr
  · rename_i m e sz xs i j hd; (try simp only [hti, hd]); exact hr
  · simp at hr

theorem absFieldAddr_mono {t : TypeId} {x r : AV} {f : Nat} (hr : absFieldAddr P h t x f = some r) : absFieldAddr P H t x f = some r := by
  unfold absFieldAddr at hr ⊢
  split at hr
  case h_2 => simp at hr
  rename_i ti hti
  split at hr
  case h_2 => simp at hr
  rename_i fs hd
  split at hr
  case h_2 => simp at hr
  rename_i fd hfd
  split at hr
  case h_2 => simp at hr
  rename_i tf htf
  split at hr
  · simp at hr
  rename_i hsz
  try simp only [hti, hd, hfd, htf, hsz, if_false]
  split at hr
  · exact hr
  · rename_i id ver i j
    cases hb : getBox h id ver with
    | none => simp [hb] at hr
    | some bx =>
      obtain ⟨f', hf⟩ := hs.box hb
      simp only [hb] at hr
      try simp only [hf]
      exact hr
  · simp at hr

theorem absLen_mono {t : TypeId} {x r : AV} (hr : absLen P h t x = some r) : absLen P H t x = some r := by
  unfold absLen at hr ⊢
  split at hr
  case h_2 => simp at hr
  rename_i ti hti
  split at hr
  · rename_i s hd; (try simp only [hti, hd]); exact hr
  · rename_i e sz xs hd; (try simp only [hti, hd]); exact hr
  · rename_i e hd; (try simp only [hti, hd]); exact hr
  · rename_i e id ver off len hd
    try simp only [hti, hd]
    cases hb : getBox h id ver with
    | none => simp [hb] at hr
    | some bx =>
      obtain ⟨f, hf⟩ := hs.box hb
      simp only [hb] at hr
      try simp only [hf]
      exact hr
  · simp at hr

theorem fop_mono {ρ : Operand → AV} {nid : Nat} {op : Op} {r : AV × Option Box} (hr : fop P ρ h nid op = some r) : fop P ρ H nid op = some r := by
  unfold fop at hr ⊢
  cases op <;> try exact hr
  case load t a =>
    simp only at hr ⊢
    split at hr
    case h_2 => simp at hr
    rename_i ti hti
    split at hr
    case h_2 => simp at hr
    rename_i x hx
    (try simp only [hti, absLoadAt_mono hs hx]); exact hr
  case nilCheck x =>
    simp only at hr ⊢
    split at hr
    · rename_i hx; (try simp only [hx]); exact hr
    · rename_i id ver i j hx
      try simp only [hx]
      cases hb : getBox h id ver with
      | none => simp [hb] at hr
      | some bx =>
        obtain ⟨f, hf⟩ := hs.box hb
        simp only [hb] at hr
        try simp only [hf]
        exact hr
    · rename_i hx; (try simp only [hx]); exact hr
    · simp at hr
  case slice t x lo hi mx =>
    simp only at hr ⊢
    split at hr
    case h_2 => simp at hr
    split at hr
    case h_2 => simp at hr
    rename_i y hy
    (try simp only [absSlice_mono hs hy]); exact hr
  case fieldAddr t x f =>
    simp only at hr ⊢
    split at hr
    case h_2 => simp at hr
    rename_i y hy
    (try simp only [absFieldAddr_mono hs hy]); exact hr
  case indexAddr t x ix =>
    simp only at hr ⊢
    split at hr
    case h_2 => simp at hr
    rename_i y hy
    (try simp only [absIndexAddr_mono hs hy]); exact hr
  case call c =>
    simp only at hr ⊢
    split at hr
    case h_2 => simp at hr
    rename_i b hb
    split at hr
    · rename_i t ts x hts hxs
      try simp only [hb, hts, hxs]
      split at hr
      case h_2 => simp at hr
      rename_i y hy
      (try simp only [absLen_mono hs hy]); exact hr
    · rename_i x xs hxs; (try simp only [hb, hxs]); exact hr
    · rename_i x xs hxs; (try simp only [hb, hxs]); exact hr
    · simp at hr
end mono

/-- An operation that lays no box does not look at the number that it would have. -/
theorem fop_nid {P : Program} {ρ : Operand → AV} {H : List Box} {n n' : Nat} {op : Op} {x : AV} (h : fop P ρ H n op = some (x, none)) : fop P ρ H n' op = some (x, none) := by
  unfold fop at h ⊢
  cases op <;> try exact h
  case alloc e =>
    simp only at h
    split at h
    · split at h <;> simp at h
    · simp at h
  case box e a =>
    simp only at h
    split at h <;> simp at h
  case buildSlice t len parts =>
    simp only at h
    split at h
    · split at h
      · split at h
        · split at h
          · split at h <;> simp at h
          · simp at h
        · simp at h
      · simp at h
    · simp at h
  case makeSlice t l c =>
    simp only [absMake] at h
    split at h
    · split at h
      · split at h
        · split at h <;> simp at h
        · simp at h
      · simp at h
    · simp at h

theorem mapO_mono {r r' : AV → Option AV} : ∀ {xs ys : List AV}, (∀ x y, x ∈ xs → r x = some y → r' x = some y) → mapO r xs = some ys → mapO r' xs = some ys
  | [], ys, _, h => h
  | x :: xs, ys, hr, h => by
    unfold mapO at h ⊢
    split at h
    · rename_i y zs h1 h2
      simp only [hr x y (by simp) h1, mapO_mono (fun a b ha hb => hr a b (by simp [ha]) hb) h2]
      exact h
    · simp at h

theorem resolve_mono {h H : List Box} (hs : HSub h H) : ∀ (n : Nat) (x y : AV), resolve h n x = some y → resolve H n x = some y ∧ reach H n x = reach h n x
  | 0, x, y, hr => ⟨hr, rfl⟩
  | n + 1, x, y, hr => by
    have listm : ∀ cs ds, mapO (resolve h n) cs = some ds → mapO (resolve H n) cs = some ds ∧ cs.flatMap (reach H n) = cs.flatMap (reach h n) := by
      intro cs ds hc
      refine ⟨mapO_mono (fun a b _ hab => (resolve_mono hs n a b hab).1) hc, ?_⟩
      obtain ⟨e1, e2⟩ := mapO_spec hc
      simp only [List.flatMap]
      congr 1
      apply List.map_congr_left
      intro a ha
      obtain ⟨i, hi, rfl⟩ := mem_getD ha
      exact (resolve_mono hs n _ _ (e2 i hi)).2
    have mape : ∀ pm cs ds, mapE pm (resolve h n) cs = some ds → mapE pm (resolve H n) cs = some ds := by
      intro pm cs ds hc
      unfold mapE at hc ⊢
      split
      · rename_i hp; rw [if_pos hp] at hc; exact hc
      · rename_i hp
        rw [if_neg hp] at hc
        refine mapO_mono (fun a b _ hab => ?_) hc
        unfold resE at hab ⊢
        split at hab
        · split at hab
          case h_2 => simp at hab
          rename_i zs hzs
          simp only [(listm _ _ hzs).1]; exact hab
        · exact (resolve_mono hs n _ _ hab).1
    have mapr : ∀ pm cs ds, mapE pm (resolve h n) cs = some ds → ¬ pm = true → (cs.flatMap fun (e : AV) => e.cells.flatMap (reach H n)) = cs.flatMap fun (e : AV) => e.cells.flatMap (reach h n) := by
      intro pm cs ds hc hp
      unfold mapE at hc
      rw [if_neg hp] at hc
      obtain ⟨e1, e2⟩ := mapO_spec hc
      simp only [List.flatMap]
      congr 1
      apply List.map_congr_left
      intro a ha
      obtain ⟨i, hi, rfl⟩ := mem_getD ha
      have h2 := e2 i hi
      unfold resE at h2
      split at h2
      · rename_i cs' hcs'
        split at h2
        case h_2 => simp at h2
        rename_i zs hzs
        have := (listm _ _ hzs).2
        rw [hcs']
        simp only [cells_agg]
        simpa [List.flatMap] using this
      · rename_i hne
        have hcell : (cs.getD i .top).cells = [cs.getD i .top] := by
          generalize cs.getD i .top = q at hne
          cases q <;> first | rfl | exact absurd rfl (hne _)
        rw [hcell]
        have := (resolve_mono hs n _ _ h2).2
        simpa using this
    unfold resolve at hr ⊢
    unfold reach
    split at hr
    · rename_i hp; simp only [hp, if_true]; exact ⟨hr, trivial⟩
    rename_i hp
    simp only [hp, if_false]
    split at hr
    · rename_i cs
      split at hr
      case h_2 => simp at hr
      rename_i ds hds
      obtain ⟨a1, a2⟩ := listm _ _ hds
      simp only [a1]; exact ⟨hr, a2⟩
    · rename_i f cs
      split at hr
      case h_2 => simp at hr
      rename_i ds hds
      obtain ⟨a1, a2⟩ := listm _ _ hds
      simp only [a1]; exact ⟨hr, a2⟩
    · rename_i id ver i j
      split at hr
      case h_2 => simp at hr
      rename_i bx hbx
      split at hr
      case h_2 => simp at hr
      rename_i ys hys
      obtain ⟨f, hf⟩ := hs.box hbx
      have hb1 := (getBox_some hbx).1
      have hf1 := (getBox_some hf).1
      simp only [hf, mape _ _ _ hys, hb1, hf1]
      refine ⟨hr, ?_⟩
      by_cases hpp : bx.pm = true
      · simp [hpp]
      · simp only [hpp, if_false]; rw [mapr _ _ _ hys hpp]
    · rename_i id ver off len
      split at hr
      case h_2 => simp at hr
      rename_i bx hbx
      split at hr
      case h_2 => simp at hr
      rename_i ys hys
      obtain ⟨f, hf⟩ := hs.box hbx
      have hb1 := (getBox_some hbx).1
      have hf1 := (getBox_some hf).1
      simp only [hf, mape _ _ _ hys, hb1, hf1]
      refine ⟨hr, ?_⟩
      by_cases hpp : bx.pm = true
      · simp [hpp]
      · simp only [hpp, if_false]; rw [mapr _ _ _ hys hpp]
    · simp at hr

end Go.Sim
/- One operation in a state: what the abstract state says holds of the model's. -/
set_option linter.unusedVariables false
set_option linter.unusedSimpArgs false
set_option linter.unnecessarySimpa false
namespace Go.Sim
open Go.RowKit


theorem reach_in {h : List Box} : ∀ (n : Nat) (x y : AV) (id : Nat), resolve h n x = some y → id ∈ reach h n x → ∃ bx, h[id]? = some bx
  | 0, x, y, id, _, hid => by simp [reach] at hid
  | n + 1, x, y, id, hr, hid => by
    have listm : ∀ cs ds, mapO (resolve h n) cs = some ds → id ∈ cs.flatMap (reach h n) → ∃ bx, h[id]? = some bx := by
      intro cs ds hc hm
      obtain ⟨e1, e2⟩ := mapO_spec hc
      obtain ⟨a, ha, hi⟩ := List.mem_flatMap.1 hm
      obtain ⟨i, hi', rfl⟩ := mem_getD ha
      exact reach_in n _ _ id (e2 i hi') hi
    have mape : ∀ pm cs ds, mapE pm (resolve h n) cs = some ds → ¬ pm = true → id ∈ (cs.flatMap fun (e : AV) => e.cells.flatMap (reach h n)) → ∃ bx, h[id]? = some bx := by
      intro pm cs ds hc hp hm
      unfold mapE at hc
      rw [if_neg hp] at hc
      obtain ⟨e1, e2⟩ := mapO_spec hc
      obtain ⟨a, ha, hi⟩ := List.mem_flatMap.1 hm
      obtain ⟨i, hi', rfl⟩ := mem_getD ha
      have h2 := e2 i hi'
      unfold resE at h2
      split at h2
      · rename_i cs' hcs'
        split at h2
        case h_2 => simp at h2
        rename_i zs hzs
        rw [hcs', cells_agg] at hi
        exact listm _ _ hzs hi
      · rename_i hne
        have hcell : (cs.getD i .top).cells = [cs.getD i .top] := by
          generalize cs.getD i .top = q at hne
          cases q <;> first | rfl | exact absurd rfl (hne _)
        rw [hcell] at hi
        exact reach_in n _ _ id h2 (by simpa using hi)
    unfold resolve at hr
    unfold reach at hid
    split at hr
    · rename_i hp; simp [hp] at hid
    rename_i hp
    simp only [hp, if_false] at hid
    split at hr
    · split at hr
      case h_2 => simp at hr
      rename_i ds hds
      exact listm _ _ hds hid
    · split at hr
      case h_2 => simp at hr
      rename_i ds hds
      exact listm _ _ hds hid
    · rename_i id' ver i j
      split at hr
      case h_2 => simp at hr
      rename_i bx hbx
      split at hr
      case h_2 => simp at hr
      rename_i ys hys
      have hb1 := (getBox_some hbx).1
      simp only [hb1] at hid
      rcases List.mem_cons.1 hid with rfl | hid
      · exact ⟨bx, hb1⟩
      · by_cases hpp : bx.pm = true
        · simp [hpp] at hid
        · simp only [hpp, if_false] at hid; exact mape _ _ _ hys hpp hid
    · rename_i id' ver off len
      split at hr
      case h_2 => simp at hr
      rename_i bx hbx
      split at hr
      case h_2 => simp at hr
      rename_i ys hys
      have hb1 := (getBox_some hbx).1
      simp only [hb1] at hid
      rcases List.mem_cons.1 hid with rfl | hid
      · exact ⟨bx, hb1⟩
      · by_cases hpp : bx.pm = true
        · simp [hpp] at hid
        · simp only [hpp, if_false] at hid; exact mape _ _ _ hys hpp hid
    · simp at hr

section
variable {P : Program} {Inv : IV} {w : World} {A : Nat → Prop} {M : Nat → Option MB} {B : Nat} {H : List Box}

theorem callFunc_run {f : FuncId} (h : Enters P f) (args : Array Value) (w : World) : (callFunc f args).run P w = .ok (.enter f args) w := by
  obtain ⟨fn, h1, h2, h3⟩ := h
  simp only [callFunc, Sem.run_bind, run_program, Result.andThen_ok, h1, h2, h3, Bool.false_eq_true, if_false, Sem.run_pure]

/-- A call of a function value: the run comes to the callee's door. -/
theorem call_run {o : Oper} {c : Call} {ρc : Operand → Value} {fo : Operand} {g : FuncId} {vs : Array Value} (ho : o.op = .call c) (hc : c.callee = .value fo) (hf : ρc fo = .func (.func g) #[] vs) (he : Enters P g) :
    (execOp ρc o).run P w = .ok (.enter g ((c.args.toList.map ρc ++ vs.toList).toArray)) w := by
  have e : c.args.map ρc ++ vs = (c.args.toList.map ρc ++ vs.toList).toArray := by
    apply Array.ext'; simp
  simp only [execOp, ho, Go.resolve, hc, hf, Deferred.ofValue, Sem.run_bind, Sem.run_pure, Result.andThen_ok, invoke, Array.empty_append, e]
  exact callFunc_run he _ w

/-- Blocks that the caller holds back while a callee runs that gives back plain data only. -/
def without (A : Nat → Prop) (M : Nat → Option MB) (ids : List Nat) : Nat → Prop := fun b => A b ∧ ¬ ∃ id m, id ∈ ids ∧ M id = some m ∧ m.b = b

theorem rc_resolve (hR : HR w A M B H) {A' : Nat → Prop} (hA : ∀ b, b < w.heap.size → A' b → A b) {n : Nat} {xs ys : List AV} {vs : List Value} (h : RC w A M vs xs) (hm : mapO (resolve H n) xs = some ys)
    (hid : ∀ id, id ∈ xs.flatMap (reach H n) → ∀ m, M id = some m → 0 < m.cap → ¬ A' m.b) : RC w A' noBox vs ys := by
  obtain ⟨e1, e2⟩ := mapO_spec hm
  refine ⟨by rw [h.1, e1], fun i hi => ?_⟩
  have hi' : i < xs.length := by omega
  exact resolve_sound hR hA n _ _ _ (h.2 i hi') (e2 i hi') fun id hid' m hm' => hid id (List.mem_flatMap.2 ⟨_, getD_mem hi', hid'⟩) m hm'

/-- Calling by a contract. -/
theorem call_good (hR : HR w A M B H) (hI : Inv w) {g : FuncId} {args args' : List AV} {r : AV} {vs : List Value} (hv : RC w A M vs args) (hm : mapO (resolve H rfuel) args = some args') (hg : Good P Inv g args' r)
    (hfz : r.flat = true ∨ ∀ id, id ∈ args.flatMap (reach H rfuel) → ∀ m, M id = some m → 0 < m.cap → ¬ A m.b) :
    Calls P g vs.toArray w fun e w' => ∃ v, e = .returned v ∧ Below w.heap.size w w' ∧ Rel w' A M v r := by
  rcases hfz with hfl | hfz
  · have hrc := rc_resolve hR (A' := without A M (args.flatMap (reach H rfuel))) (fun b _ h => h.1) hv hm (fun id hid m hm' _ h => h.2 ⟨id, m, hid, hm', rfl⟩)
    refine (hg.2 w _ vs hI (fun b hb => hR.lt b hb.1) hrc).mono ?_
    rintro e w' ⟨v, rfl, hb, hr⟩
    exact ⟨v, rfl, hb, hr.flat hfl⟩
  · have hrc := rc_resolve hR (A' := A) (fun b _ h => h) hv hm hfz
    refine (hg.2 w _ vs hI hR.lt hrc).mono ?_
    rintro e w' ⟨v, rfl, hb, hr⟩
    exact ⟨v, rfl, hb, hr.mono (fun _ _ _ => rfl) (Nat.le_refl _) (fun _ _ h => h) (mext_noBox M)⟩

/-- ONE OPERATION THAT WRITES NOTHING, the boxes as they stand behind the whole region ('H'). -/
theorem opF_core {s s' : St} {o : Oper} (h : OpF P Inv s o s') (hsub : HSub s'.heap H) {a : Act} (hR : HR w A M B H) (hB : B ≤ w.heap.size) (hI : Inv w)
    (hρ : ∀ x, x ∈ o.op.operands.toList → Rel w A M (a.eval x) (s.eval x)) (hn : s.heap.length < s'.heap.length → M s.heap.length = none) {K : Act → World → Prop} {Q : Exit → Act → World → Prop} :
    ∃ x, s'.tmps = putT s.tmps o.dst x ∧ ((∀ v w' A' M', Below w.heap.size w w' → MExt M M' → (∀ b, b < w.heap.size → (A' b ↔ A b)) →
      (∀ id m, M' id = some m → (∃ m0, M id = some m0) ∨ (id = s.heap.length ∧ s.heap.length < s'.heap.length)) → Touch w w' M M' → HR w' A' M' B H → Rel w' A' M' v x → K (a.put o.dst v) w') → o.wp P a w K Q) := by
  rcases h with ⟨x, nb, hf, rfl⟩ | ⟨c, g, args, args', r, ho, hct, hm, hg, rfl⟩
  · refine ⟨x, rfl, fun hK => ?_⟩
    have hsub0 : HSub s.heap H := (HSub.append s.heap nb.toList).trans hsub
    have hf' := fop_mono hsub0 hf
    cases nb with
    | none =>
      have hn' : M H.length = none := hR.none_of_length (Nat.le_refl _)
      obtain ⟨v, w', A', M', hrun, hbel, hext, hA, hM, hR', hr⟩ := fop_sound (o := o) (ρc := a.eval) (fop_nid (n' := H.length) hf') hρ hR hB hn' (by simp)
      have hMM : ∀ id m, M' id = some m → ∃ m0, M id = some m0 := by
        intro id m hm
        by_cases hid : id = H.length
        · rw [hid, hR'.none_of_length (Nat.le_refl _)] at hm; simp at hm
        · rw [hM.1 id hid] at hm; exact ⟨m, hm⟩
      have htch : Touch w w' M M' := .of_new hbel fun id m hm => by
        by_cases hid : id = H.length
        · subst hid; exact hM.2 m hm
        · rw [hM.1 id hid] at hm; exact .inl hm
      have := hK v w' A' M' hbel hext hA (fun id m hm => .inl (hMM id m hm)) htch hR' hr
      unfold Oper.wp
      rw [hrun]
      exact this
    | some bx =>
      have hlen : s.heap.length < (s.heap ++ [bx]).length := by simp
      have hn' : M s.heap.length = none := hn (by simp)
      obtain ⟨f, hfb, _⟩ := hsub s.heap.length bx (by simp)
      obtain ⟨v, w', A', M', hrun, hbel, hext, hA, hM, hR', hr⟩ := fop_sound (o := o) (ρc := a.eval) hf' hρ hR hB hn' (fun bx' hbx' => by simp only [Option.some.injEq] at hbx'; subst hbx'; exact ⟨f, hfb⟩)
      have := hK v w' A' M' hbel hext hA (fun id m hm => by
        by_cases hid : id = s.heap.length
        · exact .inr ⟨hid, by simp⟩
        · rw [hM.1 id hid] at hm; exact .inl ⟨m, hm⟩) (.of_new hbel fun id m hm => by
        by_cases hid : id = s.heap.length
        · subst hid; exact hM.2 m hm
        · rw [hM.1 id hid] at hm; exact .inl hm) hR' hr
      unfold Oper.wp
      rw [hrun]
      exact this
  · refine ⟨r, rfl, fun hK => ?_⟩
    unfold callTarget at hct
    split at hct
    case h_2 => simp at hct
    rename_i fo hcal
    split at hct
    case h_2 => simp at hct
    rename_i g' caps hfo
    simp only [Option.some.injEq, Prod.mk.injEq] at hct
    obtain ⟨rfl, rfl⟩ := hct
    have hopf : o.op.operands.toList = fo :: c.args.toList := by simp [ho, Op.operands, Call.operands, hcal]
    have hfr := hρ fo (by rw [hopf]; simp)
    rw [hfo] at hfr
    obtain ⟨cv, hcv, hcs, hcr⟩ := hfr.func_inv
    have hma := map_rel (w := w) (A := A) (M := M) (l := c.args.toList) (ρc := a.eval) (ρ := s.eval) (fun x hx => hρ x (by rw [hopf]; simp [hx]))
    have hrc : RC w A M (c.args.toList.map a.eval ++ cv.toList) (c.args.toList.map s.eval ++ caps) := RC.append ⟨hma.1, hma.2⟩ ⟨by simpa using hcs, fun i hi => by have := hcr i hi; simpa [List.getD_eq_getElem?_getD, Array.getD_eq_getD_getElem?] using this⟩
    have hsub0 : HSub s.heap H := by
      unfold afterCall at hsub
      split at hsub
      · exact hsub
      · exact (HSub.freeze s.heap _).trans hsub
    obtain ⟨e1, e2⟩ := mapO_spec hm
    have hm' : mapO (resolve H rfuel) (c.args.toList.map s.eval ++ caps) = some args' := mapO_mono (fun x y _ hxy => (resolve_mono hsub0 rfuel x y hxy).1) hm
    have hreach : (c.args.toList.map s.eval ++ caps).flatMap (reach H rfuel) = (c.args.toList.map s.eval ++ caps).flatMap (reach s.heap rfuel) := by
      simp only [List.flatMap]
      congr 1
      apply List.map_congr_left
      intro x hx
      obtain ⟨i, hi, rfl⟩ := mem_getD hx
      exact (resolve_mono hsub0 rfuel _ _ (e2 i hi)).2
    have hfz : r.flat = true ∨ ∀ id, id ∈ (c.args.toList.map s.eval ++ caps).flatMap (reach H rfuel) → ∀ m, M id = some m → 0 < m.cap → ¬ A m.b := by
      by_cases hfl : r.flat = true
      · exact .inl hfl
      · refine .inr fun id hid m hmm hcap0 hAm => ?_
        rw [hreach] at hid
        unfold afterCall at hsub
        rw [if_neg hfl] at hsub
        obtain ⟨x, hx, hxi⟩ := List.mem_flatMap.1 hid
        obtain ⟨i, hi, rfl⟩ := mem_getD hx
        obtain ⟨bx, hbx⟩ := reach_in rfuel _ _ id (e2 i hi) hxi
        have hfr2 : (freeze s.heap ((c.args.toList.map s.eval ++ caps).flatMap (reach s.heap rfuel)))[id]? = some { bx with frz := true } := by
          rw [freeze_get, hbx]
          simp only [Option.map_some, frzIf, List.contains_iff_mem.2 hid, if_true]
        obtain ⟨f, hf1, hf2⟩ := hsub id _ hfr2
        obtain ⟨bx2, hb2, hbat⟩ := hR.box id m hmm
        rw [hf1] at hb2
        simp only [Option.some.injEq] at hb2
        have hft : bx2.frz = true := by rw [← hb2]; exact hf2 rfl
        have := (hbat.guard hcap0).2 hAm
        rw [hft] at this
        simp at this
    have hcall := call_good (P := P) hR hI hrc hm' hg hfz
    unfold Oper.wp
    rw [call_run ho hcal hcv hg.1, Oper.upon_enter]
    refine hcall.mono ?_
    rintro e w' ⟨v, rfl, hb, hr⟩
    exact hK v w' A M hb (MExt.refl M) (fun _ _ => Iff.rfl) (fun id m hm => .inl ⟨m, hm⟩) (.of_new hb fun _ _ h => .inl h) (hR.grow hb) hr

/-- The boxes that will be frozen are frozen now. -/
theorem HR.refreeze {h : List Box} (hR : HR w A M B h) (hsub : HSub h H) :
    ∃ A', HR w A' M B H ∧ (∀ b, A' b → A b) ∧ (∀ b, b < B → A b → A' b) ∧ (∀ b, A b → (∀ id m, M id = some m → 0 < m.cap → m.b ≠ b) → A' b) := by
  refine ⟨fun b => A b ∧ ¬ ∃ id m bx, M id = some m ∧ 0 < m.cap ∧ m.b = b ∧ H[id]? = some bx ∧ bx.frz = true, ⟨?_, hR.inj, fun b hb => hR.lt b hb.1⟩, fun b hb => hb.1, fun b hb hA => ⟨hA, ?_⟩, fun b hA hno => ⟨hA, ?_⟩⟩
  · intro id m hm
    obtain ⟨bx, h1, h2⟩ := hR.box id m hm
    obtain ⟨f, h3, h4⟩ := hsub id bx h1
    refine ⟨_, h3, h2.ver, h2.sz, h2.ty, h2.capm, h2.fits, h2.ok, h2.low, h2.lt, fun h0 => ?_, fun h0 => ?_⟩
    · obtain ⟨c, g1, g2, g3⟩ := h2.cells h0
      exact ⟨c, g1, g2, fun i j hi hj => (g3 i j hi hj).mono (fun _ _ _ => rfl) (Nat.le_refl _) (fun _ _ h => h.1) (MExt.refl _)⟩
    show f = false ↔ _
    constructor
    · intro hf
      have hbf : bx.frz = false := by
        cases hb : bx.frz with
        | false => rfl
        | true => rw [h4 hb] at hf; simp at hf
      refine ⟨(h2.guard h0).1 hbf, ?_⟩
      rintro ⟨id', m', bx', e1, e0, e2, e3, e4⟩
      have : id' = id := hR.inj id' id m' m e1 hm e0 h0 e2
      subst this
      rw [h3] at e3
      simp only [Option.some.injEq] at e3
      rw [← e3] at e4
      simp [hf] at e4
    · rintro ⟨_, hno⟩
      cases hf : f with
      | false => rfl
      | true => exact absurd ⟨id, m, _, hm, h0, rfl, h3, hf⟩ hno
  · rintro ⟨id, m, bx, e1, e0, e2, _, _⟩
    obtain ⟨bx', _, h2⟩ := hR.box id m e1
    have := h2.low e0
    omega
  · rintro ⟨id, m, bx, e1, e0, e2, _, _⟩
    exact hno id m e1 e0 e2

end

/-- THE MODEL's STATE IS AS THE ABSTRACT ONE SAYS; 'w0', 'A0': the world at the function's door, and what its caller avoids. -/
structure SR (w0 : World) (A0 : Cx) (w : World) (A : Nat → Prop) (M : Nat → Option MB) (s : St) (a : Act) : Prop where
  base : Below w0.heap.size w0 w
  outer : ∀ b, b < w0.heap.size → (A b ↔ A0.av b)
  size : a.tmps.size = s.tmps.length
  tmps : ∀ t, t < s.tmps.length → Rel w A M (a.tmps.getD t undef) (s.tmps.getD t .top)
  heap : HR w A M w0.heap.size s.heap
  defers : a.defers = []
  ev : Ev A0 w A M

def SOk (w0 : World) (A0 : Cx) (s : St) : Act → World → Prop := fun a w => ∃ A M, SR w0 A0 w A M s a

section
variable {P : Program} {Inv : IV} {w0 w : World} {A0 : Cx} {A : Nat → Prop} {M : Nat → Option MB}

theorem SR.eval {s : St} {a : Act} (h : SR w0 A0 w A M s a) (x : Operand) : Rel w A M (a.eval x) (s.eval x) := by
  cases x with
  | tmp t =>
    by_cases ht : t < s.tmps.length
    · exact h.tmps t ht
    · have : s.eval (.tmp t) = .top := by simp [St.eval, List.getD_eq_getElem?_getD, List.getElem?_eq_none (Nat.le_of_not_lt ht)]
      rw [this]; exact .top _
  | const v => exact rel_avOf w A M v
  | global g => exact .gptr g
  | func f => exact .func f #[] [] rfl (by simp)

theorem rel_put {s : St} {a : Act} {A' : Nat → Prop} {M' : Nat → Option MB} {w' : World} (h1 : a.tmps.size = s.tmps.length) (h2 : ∀ t, t < s.tmps.length → Rel w' A' M' (a.tmps.getD t undef) (s.tmps.getD t .top)) {d : Option Tmp} {v : Value} {x : AV} (hv : Rel w' A' M' v x) :
    (a.put d v).tmps.size = (putT s.tmps d x).length ∧ ∀ t, t < (putT s.tmps d x).length → Rel w' A' M' ((a.put d v).tmps.getD t undef) ((putT s.tmps d x).getD t .top) := by
  cases d with
  | none => exact ⟨h1, h2⟩
  | some d =>
    refine ⟨by simp [Act.put, putT, h1], fun t ht => ?_⟩
    simp only [putT, List.length_set] at ht
    have hta : t < a.tmps.size := by omega
    simp only [Act.put, putT]
    by_cases hd : d = t
    · subst hd
      have e1 : (a.tmps.setIfInBounds d v).getD d undef = v := by simp [Array.getD_eq_getD_getElem?, hta]
      have e2 : (s.tmps.set d x).getD d .top = x := by simp [List.getD_eq_getElem?_getD, ht]
      rw [e1, e2]; exact hv
    · have e1 : (a.tmps.setIfInBounds d v).getD t undef = a.tmps.getD t undef := by simp [Array.getD_eq_getD_getElem?, Array.getElem?_setIfInBounds_ne hd]
      have e2 : (s.tmps.set d x).getD t .top = s.tmps.getD t .top := by simp [List.getD_eq_getElem?_getD, List.getElem?_set_ne hd]
      rw [e1, e2]; exact h2 t ht

theorem put_defers (a : Act) (d : Option Tmp) (v : Value) : (a.put d v).defers = a.defers := by cases d <;> rfl

theorem SR.inv {s : St} {a : Act} (hIo : InvOk Inv) (hI : Inv w0) (h : SR w0 A0 w A M s a) : Inv w := hIo.below _ _ hI h.base

/-- The boxes frozen ahead. -/
theorem SR.refreeze {s : St} {a : Act} {H : List Box} (h : SR w0 A0 w A M s a) (hsub : HSub s.heap H) : ∃ A', SR w0 A0 w A' M ⟨s.tmps, H⟩ a ∧ Mv w A M w A' M := by
  obtain ⟨A', h1, h2, h3, h4⟩ := h.heap.refreeze hsub
  have hmv : Mv w A M w A' M := ⟨Nat.le_refl _, fun _ _ _ => rfl, fun b _ hA => h2 b hA, fun b _ hA hno => h4 b hA hno, MExt.refl M, .of_new (Below.refl _ _) fun _ _ h => .inl h⟩
  exact ⟨A', ⟨h.base, fun b hb => ⟨fun hA => (h.outer b hb).1 (h2 b hA), fun hA => h3 b hb ((h.outer b hb).2 hA)⟩, h.size, fun t ht => hmv.rel (h.tmps t ht), h1, h.defers, h.ev.step hmv⟩, hmv⟩

theorem OpF.sub {s s' : St} {o : Oper} (h : OpF P Inv s o s') : HSub s.heap s'.heap := by
  rcases h with ⟨x, nb, _, rfl⟩ | ⟨c, g, args, args', r, _, _, _, _, rfl⟩
  · exact HSub.append _ _
  · unfold afterCall
    split
    · exact HSub.refl _
    · exact HSub.freeze _ _

theorem Mv.trans {w1 w2 w3 : World} {A1 A2 A3 : Nat → Prop} {M1 M2 M3 : Nat → Option MB} (h : Mv w1 A1 M1 w2 A2 M2) (g : Mv w2 A2 M2 w3 A3 M3) : Mv w1 A1 M1 w3 A3 M3 := by
  have out : ∀ b, b < w1.heap.size → (∀ id m, M1 id = some m → 0 < m.cap → m.b ≠ b) → ∀ id m, M2 id = some m → 0 < m.cap → m.b ≠ b := fun b hb hno id m hi h0 e => by
    rcases h.touch.2 id m hi h0 with ⟨i, m1, h1, h2, h3⟩ | h1
    · exact hno i m1 h1 h2 (by rw [← h3, e])
    · omega
  have lt : ∀ b, b < w1.heap.size → b < w2.heap.size := fun b hb => Nat.lt_of_lt_of_le hb h.size
  refine ⟨Nat.le_trans h.size g.size, fun b hb hA => ?_, fun b hb hA => h.less b hb (g.less b (lt b hb) hA), fun b hb hA hno => g.more b (lt b hb) (h.more b hb hA hno) (out b hb hno), h.ext.trans g.ext, ⟨fun b hb hno => ?_, fun id m' hi h0 => ?_⟩⟩
  · rw [g.keep b (lt b hb) fun h' => hA (h.less b hb h'), h.keep b hb hA]
  · rw [g.touch.1 b (lt b hb) (out b hb hno), h.touch.1 b hb hno]
  · rcases g.touch.2 id m' hi h0 with ⟨i, m1, h1, h2, h3⟩ | h1
    · rcases h.touch.2 i m1 h1 h2 with ⟨i2, m2, g1, g2, g3⟩ | g1
      · exact .inl ⟨i2, m2, g1, g2, by rw [h3, g3]⟩
      · exact .inr (by rw [h3]; exact g1)
    · exact .inr (Nat.le_trans h.size h1)

/-- A state behind a step. -/
theorem SR.put {s : St} {a : Act} (hs : SR w0 A0 w A M s a) {w' : World} {A' : Nat → Prop} {M' : Nat → Option MB} {v : Value} {x : AV} {H' : List Box} {d : Option Tmp} (hbel : Below w0.heap.size w0 w') (hout : ∀ b, b < w0.heap.size → (A' b ↔ A0.av b)) (hmv : Mv w A M w' A' M') (hR' : HR w' A' M' w0.heap.size H') (hr : Rel w' A' M' v x) :
    SR w0 A0 w' A' M' ⟨putT s.tmps d x, H'⟩ (a.put d v) := by
  obtain ⟨p1, p2⟩ := rel_put (d := d) hs.size (fun t ht => hmv.rel (hs.tmps t ht)) hr
  exact ⟨hbel, hout, p1, p2, hR', by rw [put_defers]; exact hs.defers, hs.ev.step hmv⟩

theorem opF_seq' (hIo : InvOk Inv) (hI : Inv w0) {s s' : St} {o : Oper} {a : Act} (h : OpF P Inv s o s') (hs : SR w0 A0 w A M s a) {K : Act → World → Prop} {Q : Exit → Act → World → Prop}
    (hK : ∀ v w' A' M', SR w0 A0 w' A' M' s' (a.put o.dst v) → Mv w A M w' A' M' → K (a.put o.dst v) w') : o.wp P a w K Q := by
  obtain ⟨A1, hs1, hmv1⟩ := hs.refreeze h.sub
  obtain ⟨x, hx, hwp⟩ := opF_core (w := w) (A := A1) (M := M) (B := w0.heap.size) (a := a) (K := K) (Q := Q) h (HSub.refl _) hs1.heap hs.base.size (hs.inv hIo hI) (fun y _ => by have := hs1.eval y; exact this)
    (fun _ => hs.heap.none_of_length (Nat.le_refl _))
  refine hwp fun v w' A' M' hbel hext hA hM ht hR' hr => ?_
  have hmv2 : Mv w A1 M w' A' M' := ⟨hbel.size, fun b hb _ => hbel.block b hb, fun b hb h => (hA b hb).1 h, fun b hb h _ => (hA b hb).2 h, hext, ht⟩
  have := hs1.put (d := o.dst) (hs.base.trans (hbel.mono hs.base.size)) (fun b hb => (hA b (Nat.lt_of_lt_of_le hb hs.base.size)).trans (hs1.outer b hb)) hmv2 hR' hr
  refine hK v w' A' M' ?_ (hmv1.trans hmv2)
  have e : s' = ⟨putT s.tmps o.dst x, s'.heap⟩ := by rw [← hx]
  rw [e]; exact this

theorem opF_seq (hIo : InvOk Inv) (hI : Inv w0) {s s' : St} {o : Oper} {a : Act} (h : OpF P Inv s o s') (hs : SR w0 A0 w A M s a) {K : Act → World → Prop} {Q : Exit → Act → World → Prop} (hK : ∀ a' w', SOk w0 A0 s' a' w' → K a' w') : o.wp P a w K Q :=
  opF_seq' hIo hI h hs fun _ _ A' M' h _ => hK _ _ ⟨A', M', h⟩

/-! ### A call framed -/

theorem rens_getD (f : Nat → Nat → Option (Nat × Nat)) : ∀ (xs : List AV) (i : Nat), (rens f xs).getD i .top = ren f (xs.getD i .top)
  | [], i => by simp [rens, ren]
  | x :: xs, 0 => by simp [rens]
  | x :: xs, i + 1 => by simpa [rens] using rens_getD f xs i

theorem rens_length (f : Nat → Nat → Option (Nat × Nat)) : ∀ xs : List AV, (rens f xs).length = xs.length
  | [] => rfl
  | x :: xs => by simp [rens, rens_length f xs]

theorem ren_cells (f : Nat → Nat → Option (Nat × Nat)) (x : AV) : (ren f x).cells = rens f x.cells := by
  cases x <;> first | rfl | skip
  · rename_i id ver i j
    simp only [ren, AV.cells, rens]
    cases f id ver <;> rfl
  · rename_i id ver i j
    simp only [ren, AV.cells, rens]
    cases f id ver <;> rfl

theorem rensOk_mem {f : Nat → Nat → Option (Nat × Nat)} : ∀ {xs : List AV}, rensOk f xs = true → ∀ x, x ∈ xs → renOk f x = true
  | [], _, x, hx => by simp at hx
  | y :: ys, h, x, hx => by
    simp only [rensOk, Bool.and_eq_true] at h
    rcases List.mem_cons.1 hx with rfl | hx
    · exact h.1
    · exact rensOk_mem h.2 x hx

theorem rensOk_of {f : Nat → Nat → Option (Nat × Nat)} : ∀ {xs : List AV}, (∀ x, x ∈ xs → renOk f x = true) → rensOk f xs = true
  | [], _ => rfl
  | y :: ys, h => by simp only [rensOk, Bool.and_eq_true]; exact ⟨h y (by simp), rensOk_of fun x hx => h x (by simp [hx])⟩

theorem renOk_cells {f : Nat → Nat → Option (Nat × Nat)} {x : AV} (h : renOk f x = true) : rensOk f x.cells = true := by
  cases x <;> first | (simpa [renOk, AV.cells] using h) | (simp [AV.cells, rensOk, h])

theorem ren_one {f : Nat → Nat → Option (Nat × Nat)} {x : AV} (h : renOk f x = true) (hx : x.one = true) : (ren f x).one = true := by
  cases x <;> first
    | rfl
    | (simp [AV.one] at hx; done)
    | (simp only [renOk, Option.isSome_iff_exists] at h; obtain ⟨⟨k, v⟩, h⟩ := h; simp only [ren, h]; rfl)

theorem mem_rens {f : Nat → Nat → Option (Nat × Nat)} : ∀ {xs : List AV} {y : AV}, y ∈ rens f xs → ∃ x, x ∈ xs ∧ y = ren f x
  | [], y, h => by simp [rens] at h
  | x :: xs, y, h => by
    simp only [rens] at h
    rcases List.mem_cons.1 h with rfl | h
    · exact ⟨x, by simp, rfl⟩
    · obtain ⟨x', h1, h2⟩ := mem_rens h
      exact ⟨x', by simp [h1], h2⟩

theorem ren_okElem {f : Nat → Nat → Option (Nat × Nat)} {sz : Nat} {x : AV} (h : renOk f x = true) (hx : x.okElem sz = true) : (ren f x).okElem sz = true := by
  have h1 := okElem_len hx
  have h2 := okElem_one hx
  simp only [AV.okElem, ren_cells, rens_length, h1, beq_self_eq_true, Bool.true_and, List.all_eq_true]
  intro y hy
  obtain ⟨z, hz, rfl⟩ := mem_rens hy
  rw [List.all_eq_true] at h2
  exact ren_one (rensOk_mem (renOk_cells h) z hz) (h2 z hz)

mutual
theorem renOk_total {f : Nat → Nat → Option (Nat × Nat)} (h : ∀ j ver, (f j ver).isSome = true) : ∀ x : AV, renOk f x = true
  | .agg cs => rensOk_total h cs
  | .func _ cs => rensOk_total h cs
  | .tuple cs => rensOk_total h cs
  | .own id ver _ _ => h id ver
  | .osl id ver _ _ => h id ver
  | .list _ _ => rfl
  | .eptr _ _ _ _ => rfl
  | .top => rfl
  | .bool _ => rfl
  | .int _ _ => rfl
  | .str _ => rfl
  | .nils => rfl
  | .nilptr => rfl
  | .nilfn => rfl
  | .gptr _ => rfl
theorem rensOk_total {f : Nat → Nat → Option (Nat × Nat)} (h : ∀ j ver, (f j ver).isSome = true) : ∀ xs : List AV, rensOk f xs = true
  | [] => rfl
  | x :: xs => by simp only [rensOk, renOk_total h x, rensOk_total h xs, Bool.and_self]
end

/-- How numbers may turn. -/
def RenTo (f : Nat → Nat → Option (Nat × Nat)) (M M' : Nat → Option MB) : Prop :=
  ∀ id ver k v m, f id ver = some (k, v) → M id = some m → ver ≤ m.ver → ∃ m', M' k = some m' ∧ v ≤ m'.ver ∧ m'.b = m.b ∧ m'.sz = m.sz ∧ m'.cap = m.cap ∧ (v = m'.ver → ver = m.ver)

theorem Rel.ren {w : World} {A : Nat → Prop} {M M' : Nat → Option MB} {f : Nat → Nat → Option (Nat × Nat)} {v : Value} {x : AV} (h : Rel w A M v x) : RenTo f M M' → Rel w A M' v (Sim.ren f x) := by
  induction h generalizing M' with
  | top v => intro _; exact .top v
  | bool b => intro _; exact .bool b
  | int k n => intro _; exact .int k n
  | str s => intro _; exact .str s
  | agg vs cs h hr ih => intro hf; exact .agg vs _ (by rw [rens_length]; exact h) fun i hi => by rw [rens_getD]; exact ih i (by rwa [rens_length] at hi) hf
  | nils => intro _; exact .nils
  | list0 a cap sz => intro _; exact .list0 a cap sz
  | list b off cap sz xs val ha hb hne hcap hsz hc hr ih => intro _; exact .list b off cap sz xs val ha hb hne hcap hsz hc hr
  | eptr b off sz xs i0 j0 val ha hb hi hsz hc hr ih => intro _; exact .eptr b off sz xs i0 j0 val ha hb hi hsz hc hr
  | own v id ver i j m hm hv h1 he =>
    intro hf
    simp only [Sim.ren]
    split
    · rename_i k u hk
      obtain ⟨m', g1, g2, g3, g4, g5, g6⟩ := hf id ver k u m hk hm hv
      exact .own v k u i j m' g1 g2 h1 fun e => by rw [g3, g4]; exact he (g6 e)
    · exact .top _
  | osl v id ver off len m hm hv h1 he =>
    intro hf
    simp only [Sim.ren]
    split
    · rename_i k u hk
      obtain ⟨m', g1, g2, g3, g4, g5, g6⟩ := hf id ver k u m hk hm hv
      exact .osl v k u off len m' g1 g2 h1 fun e => by rw [g3, g4, g5]; exact he (g6 e)
    · exact .top _
  | nilptr => intro _; exact .nilptr
  | func g vs cs h hr ih => intro hf; exact .func g vs _ (by rw [rens_length]; exact h) fun i hi => by rw [rens_getD]; exact ih i (by rwa [rens_length] at hi) hf
  | nilfn => intro _; exact .nilfn
  | tuple vs cs h hr ih => intro hf; exact .tuple vs _ (by rw [rens_length]; exact h) fun i hi => by rw [rens_getD]; exact ih i (by rwa [rens_length] at hi) hf
  | gptr g => intro _; exact .gptr g

/-- A box under other numbers. -/
theorem BoxAt.ren {M' : Nat → Option MB} {B : Nat} {f : Nat → Nat → Option (Nat × Nat)} {m m' : MB} {bx : Box} {ver : Nat} (h : BoxAt w A M B m bx) (hok : renBoxOk f bx = true) (hf : RenTo f M M') (e1 : m'.b = m.b) (e2 : m'.ver = ver) (e3 : m'.sz = m.sz) (e4 : m'.cap = m.cap) (e5 : m'.ty = m.ty) :
    BoxAt w A M' B m' (renBox f ver bx) := by
  obtain ⟨bver, bsz, bty, bxs, bfrz, bpm⟩ := bx
  cases bpm with
  | true =>
    exact ⟨e2.symm, by rw [e3]; exact h.sz, by rw [e5]; exact h.ty, by rw [e4]; exact h.capm, by rw [e4]; exact h.fits, by rw [e3]; exact h.ok, by rw [e1, e4]; exact h.low, by rw [e1, e4]; exact h.lt, by rw [e1, e3, e4, e5]; exact h.cells, by rw [e1, e4]; exact h.guard⟩
  | false =>
    refine ⟨e2.symm, by rw [e3]; exact h.sz, by rw [e5]; exact h.ty, by rw [e4]; exact h.capm, by rw [e4]; simp only [renBox, rens_length]; exact h.fits, fun x hx => ?_, by rw [e1, e4]; exact h.low, by rw [e1, e4]; exact h.lt, fun h0 => ?_, by rw [e1, e4]; exact h.guard⟩
    · obtain ⟨y, hy, rfl⟩ := mem_rens hx
      rw [e3]
      exact ren_okElem (rensOk_mem hok y hy) (h.ok y hy)
    · rw [e4] at h0
      obtain ⟨c, g1, g2, g3⟩ := h.cells h0
      refine ⟨c, by rw [e1, e5]; exact g1, by rw [e3, e4]; exact g2, fun i j hi hj => ?_⟩
      rw [e3] at hj ⊢
      simp only [renBox, rens_length] at hi
      have := (g3 i j hi hj).ren (f := f) (M' := M') hf
      simp only [renBox, rens_getD, ren_cells]
      exact this

theorem posOf_cons (a : Nat) (l : List Nat) (x : Nat) : posOf (a :: l) x = match Nat.beq a x with | true => some 0 | false => (match posOf l x with | some j => some (j + 1) | none => none) := rfl

theorem posOf_some : ∀ {l : List Nat} {x j : Nat}, posOf l x = some j → l[j]? = some x
  | [], x, j, h => by simp [posOf] at h
  | a :: l, x, j, h => by
    unfold posOf at h
    split at h
    · rename_i hb
      have := Nat.eq_of_beq_eq_true hb
      simp only [Option.some.injEq] at h
      subst h; subst this; rfl
    · split at h
      · rename_i j' hj
        simp only [Option.some.injEq] at h
        subst h
        simpa using posOf_some hj
      · simp at h

theorem posOf_none : ∀ {l : List Nat} {x : Nat}, posOf l x = none → x ∉ l
  | [], x, _ => by simp
  | a :: l, x, h => by
    unfold posOf at h
    split at h
    · simp at h
    · rename_i hb
      split at h
      · simp at h
      · rename_i hn
        have hne : a ≠ x := fun e => by subst e; simp at hb
        simp only [List.mem_cons, not_or]
        exact ⟨fun e => hne e.symm, posOf_none hn⟩

theorem posOf_get : ∀ {l : List Nat} {x j : Nat}, nodupB l = true → l[j]? = some x → posOf l x = some j
  | [], x, j, _, h => by simp at h
  | a :: l, x, j, hn, h => by
    unfold nodupB at hn
    split at hn
    · simp at hn
    rename_i hna
    cases j with
    | zero =>
      simp only [List.getElem?_cons_zero, Option.some.injEq] at h
      subst h
      unfold posOf
      simp
    | succ j =>
      have h' : l[j]? = some x := by simpa using h
      have hne : a ≠ x := fun e => by
        subst e
        exact posOf_none hna (List.mem_of_getElem? h')
      unfold posOf
      have hb : Nat.beq a x = false := by
        cases hb : Nat.beq a x with
        | false => rfl
        | true => exact absurd (Nat.eq_of_beq_eq_true hb) hne
      simp only [hb, posOf_get hn h']

theorem subBoxes_spec {f : Nat → Nat → Option (Nat × Nat)} {H : List Box} : ∀ {ids : List Nat} {H0 : List Box}, subBoxes f H ids = some H0 → H0.length = ids.length ∧ ∀ (j id : Nat), ids[j]? = some id → ∃ bx : Box, H[id]? = some bx ∧ H0[j]? = some (renBox f bx.ver bx) ∧ renBoxOk f bx = true
  | [], H0, h => by simp only [subBoxes, Option.some.injEq] at h; subst h; simp
  | a :: ids, H0, h => by
    unfold subBoxes at h
    split at h
    case h_2 => simp at h
    rename_i bx hb
    split at h
    case h_2 => simp at h
    rename_i hok
    split at h
    case h_2 => simp at h
    rename_i bs hbs
    simp only [Option.some.injEq] at h; subst h
    obtain ⟨h1, h2⟩ := subBoxes_spec hbs
    refine ⟨by simp [h1], fun j id hj => ?_⟩
    cases j with
    | zero =>
      simp only [List.getElem?_cons_zero, Option.some.injEq] at hj
      subst hj
      exact ⟨bx, hb, rfl, hok⟩
    | succ j => exact h2 j id (by simpa using hj)

theorem backBoxes_get (f : Nat → Nat → Option (Nat × Nat)) : ∀ (bs : List Box) (j : Nat), (backBoxes f bs)[j]? = (bs[j]?).map fun bx => renBox f bx.ver bx
  | [], j => by simp [backBoxes]
  | b :: bs, 0 => by simp [backBoxes]
  | b :: bs, j + 1 => by simpa [backBoxes] using backBoxes_get f bs j

theorem backBoxes_length (f : Nat → Nat → Option (Nat × Nat)) : ∀ bs : List Box, (backBoxes f bs).length = bs.length
  | [] => rfl
  | b :: bs => by simp [backBoxes, backBoxes_length f bs]

theorem setAllB_length : ∀ (ids : List Nat) (bs : List Box) (H : List Box), (setAllB H ids bs).length = H.length
  | [], _, H => by simp [setAllB]
  | id :: ids, [], H => by simp [setAllB]
  | id :: ids, b :: bs, H => by simp only [setAllB]; rw [setAllB_length ids bs]; simp

theorem setAllB_get : ∀ {ids : List Nat} {bs H : List Box} {id : Nat}, nodupB ids = true → id < H.length → (setAllB H ids bs)[id]? = match posOf ids id with
    | some j => (match bs[j]? with | some b => some b | none => H[id]?)
    | none => H[id]?
  | [], bs, H, id, _, _ => by cases bs <;> simp [setAllB, posOf]
  | a :: ids, [], H, id, _, _ => by
    simp only [setAllB]
    split <;> simp
  | a :: ids, b :: bs, H, id, hn, hlt => by
    unfold nodupB at hn
    split at hn
    · simp at hn
    rename_i hna
    simp only [setAllB]
    rw [setAllB_get hn (by simpa using hlt)]
    rw [posOf_cons]
    cases hb : Nat.beq a id with
    | true =>
      have := Nat.eq_of_beq_eq_true hb
      subst this
      simp [hna, hlt]
    | false =>
      have hne : a ≠ id := fun e => by subst e; simp at hb
      cases hp : posOf ids id with
      | none => simp [List.getElem?_set_ne hne]
      | some j => simp [List.getElem?_set_ne hne]

/-- A call by a contract that writes, among the caller's other boxes. -/
theorem call_frame (hI : Inv w0) (hbase : Below w0.heap.size w0 w) {H : List Box} (hR : HR w A M w0.heap.size H) {g : FuncId} {args : List AV} {vs : List Value} (hv : RC w A M vs args) {ids : List Nat} (hnd : nodupB ids = true) {H0 H0' : List Box} {r0 : AV}
    (hsub : subBoxes (inF ids) H ids = some H0) (hg : GoodM P Inv g (rens (inF ids) args) H0 r0 H0') :
    Calls P g vs.toArray w fun e w' => ∃ v A' M', e = .returned v ∧ Below w0.heap.size w0 w' ∧ (∀ b, b < w0.heap.size → (A' b ↔ A b)) ∧ Mv w A M w' A' M' ∧ HR w' A' M' w0.heap.size (outHeap H ids H0') ∧ Rel w' A' M' v (ren (outF ids H.length ids.length) r0) := by
  obtain ⟨hl0, hsp⟩ := subBoxes_spec hsub
  let M0 : Nat → Option MB := fun j => (ids[j]?).bind M
  have hM0 : ∀ j id, ids[j]? = some id → M0 j = M id := fun j id hj => by simp [M0, hj]
  have hM0s : ∀ j m, M0 j = some m → ∃ id, ids[j]? = some id ∧ M id = some m := fun j m h => by
    simp only [M0] at h
    cases hj : ids[j]? with
    | none => rw [hj] at h; simp at h
    | some id => rw [hj] at h; exact ⟨id, rfl, by simpa using h⟩
  have hin : RenTo (inF ids) M M0 := fun id ver k v m hf hm hv => by
    unfold inF at hf
    split at hf
    · rename_i j hj
      simp only [Option.some.injEq, Prod.mk.injEq] at hf
      obtain ⟨rfl, rfl⟩ := hf
      exact ⟨m, by rw [hM0 j id (posOf_some hj)]; exact hm, hv, rfl, rfl, rfl, fun e => e⟩
    · simp at hf
  have hR0 : HR w A M0 w0.heap.size H0 := by
    refine ⟨fun j m hm => ?_, fun j j' m m' h1 h2 c1 c2 he => ?_, hR.lt⟩
    · obtain ⟨id, hj, hid⟩ := hM0s j m hm
      obtain ⟨bx, g1, g2, g3⟩ := hsp j id hj
      obtain ⟨bx', g4, g5⟩ := hR.box id m hid
      rw [g1] at g4
      simp only [Option.some.injEq] at g4
      subst g4
      exact ⟨_, g2, g5.ren g3 hin rfl g5.ver.symm rfl rfl rfl⟩
    · obtain ⟨i1, e1, e2⟩ := hM0s j m h1
      obtain ⟨i2, e3, e4⟩ := hM0s j' m' h2
      have := hR.inj i1 i2 m m' e2 e4 c1 c2 he
      subst this
      have p1 := posOf_get hnd e1
      have p2 := posOf_get hnd e3
      rw [p1] at p2
      simpa using p2
  have hv0 : RC w A M0 vs (rens (inF ids) args) := ⟨by rw [rens_length]; exact hv.1, fun i hi => by
    rw [rens_getD]; exact (hv.2 i (by rwa [rens_length] at hi)).ren hin⟩
  refine (hg.2 w0 w A M0 vs hI hbase hR0 hv0).mono ?_
  rintro e w' ⟨v, A', M0', rfl, hbel, hout, hev, hR0', hr⟩
  have hw1 : w.heap.size ≤ w'.heap.size := hev.size
  have hidlt : ∀ j id, ids[j]? = some id → id < H.length := fun j id hj => by
    obtain ⟨bx, g1, _⟩ := hsp j id hj
    rcases Nat.lt_or_ge id H.length with h | h
    · exact h
    · rw [List.getElem?_eq_none h] at g1; simp at g1
  have hMlt : ∀ id m, M id = some m → id < H.length := fun id m hm => by
    obtain ⟨bx, g1, _⟩ := hR.box id m hm
    rcases Nat.lt_or_ge id H.length with h | h
    · exact h
    · rw [List.getElem?_eq_none h] at g1; simp at g1
  let M' : Nat → Option MB := fun id => match posOf ids id with
    | some j => M0' j
    | none => if id < H.length then M id else M0' (id - H.length + ids.length)
  have hM'p : ∀ id j, posOf ids id = some j → M' id = M0' j := fun id j h => by simp [M', h]
  have hM'o : ∀ id, posOf ids id = none → id < H.length → M' id = M id := fun id h h' => by simp [M', h, h']
  have hM'n : ∀ id, ¬ id < H.length → M' id = M0' (id - H.length + ids.length) := fun id h => by
    have : posOf ids id = none := by
      cases hp : posOf ids id with
      | none => rfl
      | some j => exact absurd (hidlt j id (posOf_some hp)) h
    simp [M', this, h]
  -- a number of the caller's: the callee's, or untouched
  have hcase : ∀ id m, M' id = some m → (∃ j, M0' j = some m ∧ outF ids H.length ids.length j m.ver = some (id, m.ver)) ∨ (posOf ids id = none ∧ id < H.length ∧ M id = some m) := fun id m hm => by
    cases hp : posOf ids id with
    | some j =>
      rw [hM'p id j hp] at hm
      exact .inl ⟨j, hm, by simp [outF, posOf_some hp]⟩
    | none =>
      by_cases hlt : id < H.length
      · rw [hM'o id hp hlt] at hm; exact .inr ⟨rfl, hlt, hm⟩
      · rw [hM'n id hlt] at hm
        refine .inl ⟨_, hm, ?_⟩
        unfold outF
        rw [List.getElem?_eq_none (by omega)]
        simp only [Option.some.injEq, Prod.mk.injEq, and_true]
        omega
  have hoback : RenTo (outF ids H.length ids.length) M0' M' := fun j ver k u m hf hm hv => by
    unfold outF at hf
    split at hf
    · rename_i id hj
      simp only [Option.some.injEq, Prod.mk.injEq] at hf
      obtain ⟨rfl, rfl⟩ := hf
      exact ⟨m, by rw [hM'p id j (posOf_get hnd hj)]; exact hm, hv, rfl, rfl, rfl, fun e => e⟩
    · rename_i hj
      have hge : ids.length ≤ j := by
        rcases Nat.lt_or_ge j ids.length with h | h
        · rw [List.getElem?_eq_getElem h] at hj; simp at hj
        · exact h
      simp only [Option.some.injEq, Prod.mk.injEq] at hf
      obtain ⟨rfl, rfl⟩ := hf
      exact ⟨m, by rw [hM'n _ (by omega), show H.length + (j - ids.length) - H.length + ids.length = j by omega]; exact hm, hv, rfl, rfl, rfl, fun e => e⟩
  have houtok : ∀ bx : Box, renBoxOk (outF ids H.length ids.length) bx = true := by
    have htot : ∀ j ver, (outF ids H.length ids.length j ver).isSome = true := fun j ver => by unfold outF; split <;> rfl
    have key : ∀ x : AV, renOk (outF ids H.length ids.length) x = true := renOk_total htot
    intro bx
    unfold renBoxOk
    split
    · rfl
    · exact rensOk_of fun x _ => key x
  -- the heap
  have hk0 : ids.length ≤ H0'.length ∨ H0'.length < ids.length := by omega
  have hheap : ∀ j m, M0' j = some m → ∀ id, outF ids H.length ids.length j m.ver = some (id, m.ver) → ∃ bx, H0'[j]? = some bx ∧ (outHeap H ids H0')[id]? = some (renBox (outF ids H.length ids.length) bx.ver bx) := fun j m hm id hf => by
    obtain ⟨bx, g1, g2⟩ := hR0'.box j m hm
    refine ⟨bx, g1, ?_⟩
    unfold outF at hf
    split at hf
    · rename_i id' hj
      simp only [Option.some.injEq, Prod.mk.injEq, and_true] at hf
      subst hf
      have hlt := hidlt j id' hj
      unfold outHeap
      rw [List.getElem?_append_left (by rw [setAllB_length]; exact hlt), setAllB_get hnd hlt, posOf_get hnd hj]
      simp only [backBoxes_get, g1, Option.map_some]
    · rename_i hj
      have hge : ids.length ≤ j := by
        rcases Nat.lt_or_ge j ids.length with h | h
        · rw [List.getElem?_eq_getElem h] at hj; simp at hj
        · exact h
      simp only [Option.some.injEq, Prod.mk.injEq, and_true] at hf
      subst hf
      unfold outHeap
      rw [List.getElem?_append_right (by rw [setAllB_length]; omega), setAllB_length, List.getElem?_drop, show ids.length + (H.length + (j - ids.length) - H.length) = j by omega, backBoxes_get, g1]
      rfl
  have hMb : ∀ b, (∀ id m, M id = some m → 0 < m.cap → m.b ≠ b) → ∀ j m, M0 j = some m → 0 < m.cap → m.b ≠ b := fun b h j m hm h0 => by
    obtain ⟨id, _, hid⟩ := hM0s j m hm
    exact h id m hid h0
  have hother : ∀ id m, posOf ids id = none → M id = some m → 0 < m.cap → ∀ j m0, M0 j = some m0 → 0 < m0.cap → m0.b ≠ m.b := fun id m hp hm h0 j m0 hj c0 he => by
    obtain ⟨i1, e1, e2⟩ := hM0s j m0 hj
    have := hR.inj i1 id m0 m e2 hm c0 h0 he
    subst this
    rw [posOf_get hnd e1] at hp
    simp at hp
  have hext : MExt M M' := fun id m hm => by
    cases hp : posOf ids id with
    | some j =>
      obtain ⟨m', g1, g2⟩ := hev.ids j m (by
        show j < H0.length
        rw [hl0]
        rcases Nat.lt_or_ge j ids.length with h | h
        · exact h
        · have := posOf_some hp; rw [List.getElem?_eq_none h] at this; simp at this) (by show M0 j = some m; rw [hM0 j id (posOf_some hp)]; exact hm)
      exact ⟨m', by rw [hM'p id j hp]; exact g1, g2⟩
    | none => exact ⟨m, by rw [hM'o id hp (hMlt id m hm)]; exact hm, .inl rfl⟩
  have hkeep : ∀ b, b < w.heap.size → ¬ A b → w'.heap[b]? = w.heap[b]? := fun b hb hA => hev.keep b hb (.inl hA)
  have htouch : Touch w w' M M' := ⟨fun b hb hno => hev.keep b hb (.inr (hMb b hno)), fun id m' hm h0 => by
    rcases hcase id m' hm with ⟨j, hj, _⟩ | ⟨_, _, hm'⟩
    · rcases hev.src j m' hj h0 with ⟨i, m, h1, h2, h3⟩ | h1
      · obtain ⟨id', _, hid'⟩ := hM0s i m h1
        exact .inl ⟨id', m, hid', h2, h3⟩
      · exact .inr h1
    · exact .inl ⟨id, m', hm', h0, rfl⟩⟩
  have hmv : Mv w A M w' A' M' := ⟨hw1, hkeep, fun b hb h => hev.less b hb h, fun b hb h hno => hev.more b hb h (hMb b hno), hext, htouch⟩
  refine ⟨v, A', M', rfl, hbel, hout, hmv, ⟨fun id m hm => ?_, fun id id' m m' h1 h2 c1 c2 he => ?_, hR0'.lt⟩, hr.ren hoback⟩
  · rcases hcase id m hm with ⟨j, hj, hf⟩ | ⟨hp, hlt, hm'⟩
    · obtain ⟨bx, g1, g2⟩ := hheap j m hj id hf
      obtain ⟨bx', g3, g4⟩ := hR0'.box j m hj
      rw [g1] at g3
      simp only [Option.some.injEq] at g3
      subst g3
      exact ⟨_, g2, g4.ren (houtok bx) hoback rfl g4.ver.symm rfl rfl rfl⟩
    · obtain ⟨bx, g1, g2⟩ := hR.box id m hm'
      refine ⟨bx, ?_, g2.mono (fun h0 => hev.keep m.b (g2.lt h0) (.inr (hother id m hp hm' h0))) hkeep hw1 (fun b hb h => hev.less b hb h) (fun h0 => ?_) hext⟩
      · unfold outHeap
        rw [List.getElem?_append_left (by rw [setAllB_length]; exact hlt), setAllB_get hnd hlt, hp]
        exact g1
      · rw [g2.guard h0]
        exact ⟨fun h => hev.more m.b (g2.lt h0) h (hother id m hp hm' h0), fun h => hev.less m.b (g2.lt h0) h⟩
  · have mix : ∀ (id1 id2 : Nat) (m1 m2 : MB) (j : Nat), M0' j = some m1 → posOf ids id2 = none → M id2 = some m2 → 0 < m1.cap → 0 < m2.cap → m1.b = m2.b → False := fun id1 id2 m1 m2 j hj hp hm c1 c2 he => by
      rcases hev.src j m1 hj c1 with ⟨i, m, e1, e2, e3⟩ | e1
      · exact hother id2 m2 hp hm c2 i m e1 e2 (by rw [← e3, he])
      · obtain ⟨bx, _, g2⟩ := hR.box id2 m2 hm
        have := g2.lt c2
        simp only at e1
        omega
    rcases hcase id m h1 with ⟨j, hj, hf⟩ | ⟨hp, hlt, hm1⟩ <;> rcases hcase id' m' h2 with ⟨j', hj', hf'⟩ | ⟨hp', hlt', hm2⟩
    · have := hR0'.inj j j' m m' hj hj' c1 c2 he
      subst this
      rw [hj] at hj'
      simp only [Option.some.injEq] at hj'
      subst hj'
      rw [hf] at hf'
      simpa using hf'
    · exact (mix id id' m m' j hj hp' hm2 c1 c2 he).elim
    · exact (mix id' id m' m j' hj' hp hm1 c2 c1 he.symm).elim
    · exact hR.inj id id' m m' hm1 hm2 c1 c2 he

theorem putT_inj {a b : List AV} {d : Option Tmp} {x y : AV} (hl : a.length = b.length) (h : putT a d x = putT a d y) : putT b d x = putT b d y := by
  cases d with
  | none => rfl
  | some d =>
    simp only [putT] at h ⊢
    by_cases hd : d < a.length
    · have : (a.set d x)[d]? = (a.set d y)[d]? := by rw [h]
      simp [hd] at this
      rw [this]
    · have hd' : b.length ≤ d := by rw [← hl]; exact Nat.le_of_not_lt hd
      rw [List.set_eq_of_length_le hd', List.set_eq_of_length_le hd']

theorem opI_seq' (hIo : InvOk Inv) (hI : Inv w0) {s s' : St} {o : Oper} {a : Act} (h : OpI P Inv s o s') (hs : SR w0 A0 w A M s a) {K : Act → World → Prop} {Q : Exit → Act → World → Prop}
    (hK : ∀ v w' A' M', SR w0 A0 w' A' M' s' (a.put o.dst v) → Mv w A M w' A' M' → K (a.put o.dst v) w') : o.wp P a w K Q := by
  rcases h with ⟨x, H', hi, rfl⟩ | ⟨c, g, args, ids, H0, r0, H0', ho, hct, hnd, hsub, hg, rfl⟩ | ⟨s1, x, nb, hst, hf, rfl⟩
  · obtain ⟨n, w', A', M', v, hrun, hn, hbel, hext, hA, hkeep, ht, hR', hr⟩ := iop_sound (ρc := a.eval) hs.heap hs.base.size (fun x => hs.eval x) hi
    have hmv : Mv w A M w' A' M' := ⟨hbel.size, hkeep, fun b hb h => (hA b hb).1 h, fun b hb h _ => (hA b hb).2 h, hext, ht⟩
    have := hK v w' A' M' (hs.put (hs.base.trans hbel) (fun b hb => (hA b (Nat.lt_of_lt_of_le hb hs.base.size)).trans (hs.outer b hb)) hmv hR' hr) hmv
    unfold Oper.wp
    rw [hrun]
    rcases hn with rfl | ⟨rfl, rfl⟩
    · exact this
    · exact this
  · unfold callTarget at hct
    split at hct
    case h_2 => simp at hct
    rename_i fo hcal
    split at hct
    case h_2 => simp at hct
    rename_i g' caps hfo
    simp only [Option.some.injEq, Prod.mk.injEq] at hct
    obtain ⟨rfl, rfl⟩ := hct
    have hfr := hs.eval fo
    rw [hfo] at hfr
    obtain ⟨cv, hcv, hcs, hcr⟩ := hfr.func_inv
    have hma := map_rel (w := w) (A := A) (M := M) (l := c.args.toList) (ρc := a.eval) (ρ := s.eval) (fun x _ => hs.eval x)
    have hrc : RC w A M (c.args.toList.map a.eval ++ cv.toList) (c.args.toList.map s.eval ++ caps) := RC.append ⟨hma.1, hma.2⟩ ⟨by simpa using hcs, fun i hi => by have := hcr i hi; simpa [List.getD_eq_getElem?_getD, Array.getD_eq_getD_getElem?] using this⟩
    unfold Oper.wp
    rw [call_run ho hcal hcv hg.1, Oper.upon_enter]
    refine (call_frame hI hs.base hs.heap hrc hnd hsub hg).mono ?_
    rintro e w' ⟨v, A', M', rfl, hbel, hout, hmv, hR', hr⟩
    exact hK v w' A' M' (hs.put hbel (fun b hb => (hout b hb).trans (hs.outer b hb)) hmv hR' hr) hmv
  · obtain ⟨fids, e1, e2, e3⟩ := hst
    have hsub1 : HSub s1.heap (s1.heap ++ nb.toList) := HSub.append _ _
    have hsub : HSub s.heap (s1.heap ++ nb.toList) := by
      refine HSub.trans ?_ hsub1
      rw [e1]; exact HSub.freeze _ _
    have hlen : s1.heap.length = s.heap.length := by rw [e1, freeze_length]
    obtain ⟨A1, hsA, hmv1⟩ := hs.refreeze hsub
    have hfr : ∀ id, id ∈ fids → ∀ m, M id = some m → 0 < m.cap → ¬ A1 m.b := fun id hid m hm h0 hA => by
      obtain ⟨bx, hb1, hb2⟩ := hsA.heap.box id m hm
      obtain ⟨bx0, g1, _⟩ := hs.heap.box id m hm
      have h1 : s1.heap[id]? = some { bx0 with frz := true } := by
        rw [e1, freeze_get, g1]
        simp only [Option.map_some, frzIf, List.contains_iff_mem.2 hid, if_true]
      obtain ⟨f, h2, h3⟩ := hsub1 id _ h1
      have h2' : (s1.heap ++ nb.toList)[id]? = some bx := hb1
      rw [h2] at h2'
      simp only [Option.some.injEq] at h2'
      have := (hb2.guard h0).2 hA
      rw [← h2'] at this
      simp only [h3 rfl] at this
      simp at this
    have hρ : ∀ y, y ∈ o.op.operands.toList → Rel w A1 M (a.eval y) (s1.eval y) := fun y _ => by
      have key : ∀ t, s1.eval (.tmp t) = s.eval (.tmp t) ∨ (resolve s.heap rfuel (s.eval (.tmp t)) = some (s1.eval (.tmp t)) ∧ ∀ id, id ∈ reach s.heap rfuel (s.eval (.tmp t)) → id ∈ fids) := fun t => e3 t
      have h0 : Rel w A1 M (a.eval y) (s.eval y) := by have := hsA.eval y; cases y <;> exact this
      cases y with
      | tmp t =>
        rcases key t with h | ⟨h, hid⟩
        · rw [h]; exact h0
        · exact (resolve_sound hs.heap (A' := A1) (fun b hb h => hmv1.less b hb h) rfuel _ _ _ (hs.eval (.tmp t)) h fun id hid' m hm h0 => hfr id (hid id hid') m hm h0).lift M
      | const v => exact h0
      | global g => exact h0
      | func f => exact h0
    obtain ⟨x', hx, hwp⟩ := opF_core (P := P) (Inv := Inv) (s := s1) (s' := ⟨putT s1.tmps o.dst x, s1.heap ++ nb.toList⟩) (w := w) (A := A1) (M := M) (B := w0.heap.size) (a := a) (K := K) (Q := Q) (o := o) (.inl ⟨x, nb, hf, rfl⟩) (HSub.refl _) hsA.heap hs.base.size (hs.inv hIo hI) hρ
      (fun _ => by rw [hlen]; exact hs.heap.none_of_length (Nat.le_refl _))
    refine hwp fun v w' A' M' hbel hext hA hM ht hR' hr => ?_
    have hmv2 : Mv w A1 M w' A' M' := ⟨hbel.size, fun b hb _ => hbel.block b hb, fun b hb h => (hA b hb).1 h, fun b hb h _ => (hA b hb).2 h, hext, ht⟩
    have := hsA.put (d := o.dst) (hs.base.trans (hbel.mono hs.base.size)) (fun b hb => (hA b (Nat.lt_of_lt_of_le hb hs.base.size)).trans (hsA.outer b hb)) hmv2 hR' hr
    refine hK v w' A' M' ?_ (hmv1.trans hmv2)
    have e : putT s.tmps o.dst x = putT s.tmps o.dst x' := putT_inj e2 hx
    rw [e]; exact this

theorem opI_seq (hIo : InvOk Inv) (hI : Inv w0) {s s' : St} {o : Oper} {a : Act} (h : OpI P Inv s o s') (hs : SR w0 A0 w A M s a) {K : Act → World → Prop} {Q : Exit → Act → World → Prop} (hK : ∀ a' w', SOk w0 A0 s' a' w' → K a' w') : o.wp P a w K Q :=
  opI_seq' hIo hI h hs fun _ _ A' M' h _ => hK _ _ ⟨A', M', h⟩

end
end Go.Sim
/- Regions: in the order of the text, and in whatever order the tape draws. -/
set_option linter.unusedVariables false
set_option linter.unusedSimpArgs false
set_option linter.unnecessarySimpa false
namespace Go.Sim
open Go.RowKit

/-- What a guard's operation has yielded: 'none': not known. -/
def ayield (ops : Array Oper) (ts : List AV) (j : Nat) : Option (Option Bool) :=
  match (ops[j]?).bind (·.dst) with
  | none => some none
  | some d => match ts[d]? with
    | none => some none
    | some (.bool b) => some (some b)
    | some (.tuple _) => some none
    | _ => none

def awanted (ops : Array Oper) (ts : List AV) (o : Oper) : Option Bool :=
  match o.guard with
  | none => some true
  | some (j, want) => match ayield ops ts j with
    | some y => some (y == some want)
    | none => none

/-- The operations of a region, one after the other. -/
inductive Path (Step : St → Oper → St → Prop) (ops : Array Oper) : List Oper → St → St → Prop where
  | nil (s : St) : Path Step ops [] s s
  | run {o : Oper} {rest : List Oper} {s s1 s2 : St} (hw : awanted ops s.tmps o = some true) (h : Step s o s1) (hr : Path Step ops rest s1 s2) : Path Step ops (o :: rest) s s2
  | skip {o : Oper} {rest : List Oper} {s s2 : St} (hw : awanted ops s.tmps o = some false) (hr : Path Step ops rest ⟨putT s.tmps o.dst (.tuple []), s.heap⟩ s2) : Path Step ops (o :: rest) s s2

def OpA (P : Program) (Inv : IV) (s : St) (o : Oper) (s' : St) : Prop := OpF P Inv s o s' ∨ OpI P Inv s o s'

section
variable {P : Program} {Inv : IV} {w0 w : World} {A0 : Cx} {A : Nat → Prop} {M : Nat → Option MB} {ops : Array Oper}

theorem wanted_of {ts : List AV} {a : Act} {o : Oper} {b : Bool} (hsz : a.tmps.size = ts.length) (hr : ∀ j want d, o.guard = some (j, want) → (ops[j]?).bind (·.dst) = some d → d < ts.length → Rel w A M (a.tmps.getD d undef) (ts.getD d .top)) (h : awanted ops ts o = some b) :
    Region.wanted o (yielded ops a.tmps) = b := by
  unfold awanted at h
  unfold Region.wanted
  split at h
  · rename_i hg
    simp only [Option.some.injEq] at h
    simp [hg, h]
  · rename_i j want hg
    simp only [hg]
    split at h
    case h_2 => simp at h
    rename_i y hy
    simp only [Option.some.injEq] at h
    rw [← h]
    congr 1
    unfold ayield at hy
    unfold yielded
    split at hy
    · rename_i hd
      simp only [Option.some.injEq] at hy
      rw [hd, ← hy]; rfl
    · rename_i d hd
      rw [hd]
      simp only [Option.bind_some]
      by_cases hlt : d < ts.length
      · have := hr j want d hg hd hlt
        have hlt' : d < a.tmps.size := by rw [hsz]; exact hlt
        rw [List.getElem?_eq_getElem hlt] at hy
        have e : ts.getD d .top = ts[d] := by simp [List.getD_eq_getElem?_getD, hlt]
        rw [e] at this
        have e2 : a.tmps[d]? = some (a.tmps.getD d undef) := by simp [hlt']
        rw [e2]
        split at hy
        · rename_i hq; simp at hq
        · rename_i b' hq
          simp only [Option.some.injEq] at hq hy
          rw [hq] at this
          rw [this.bool_inv, ← hy]
        · rename_i vs hq
          simp only [Option.some.injEq] at hq hy
          rw [hq] at this
          obtain ⟨us, hu, _⟩ := this.tuple_inv
          rw [hu, ← hy]
        · simp at hy
      · rw [List.getElem?_eq_none (Nat.le_of_not_lt hlt)] at hy
        simp only [Option.some.injEq] at hy
        rw [Array.getElem?_eq_none (by rw [hsz]; exact Nat.le_of_not_lt hlt), ← hy]

theorem SR.skip {s : St} {a : Act} (hs : SR w0 A0 w A M s a) (d : Option Tmp) : SR w0 A0 w A M ⟨putT s.tmps d (.tuple []), s.heap⟩ (a.put d undef) := by
  obtain ⟨p1, p2⟩ := rel_put (d := d) hs.size hs.tmps (Rel.tuple (w := w) (A := A) (M := M) #[] [] rfl (by simp))
  exact ⟨hs.base, hs.outer, p1, p2, hs.heap, by rw [put_defers]; exact hs.defers, hs.ev⟩

theorem opA_seq (hIo : InvOk Inv) (hI : Inv w0) {s s' : St} {o : Oper} {a : Act} (h : OpA P Inv s o s') (hs : SR w0 A0 w A M s a) {K : Act → World → Prop} {Q : Exit → Act → World → Prop} (hK : ∀ a' w', SOk w0 A0 s' a' w' → K a' w') : o.wp P a w K Q := by
  rcases h with h | h
  · exact opF_seq hIo hI h hs hK
  · exact opI_seq hIo hI h hs hK

theorem opA_seq' (hIo : InvOk Inv) (hI : Inv w0) {s s' : St} {o : Oper} {a : Act} (h : OpA P Inv s o s') (hs : SR w0 A0 w A M s a) {K : Act → World → Prop} {Q : Exit → Act → World → Prop}
    (hK : ∀ v w' A' M', SR w0 A0 w' A' M' s' (a.put o.dst v) → Mv w A M w' A' M' → K (a.put o.dst v) w') : o.wp P a w K Q := by
  rcases h with h | h
  · exact opF_seq' hIo hI h hs hK
  · exact opI_seq' hIo hI h hs hK

theorem opA_tmps {s s' : St} {o : Oper} (h : OpA P Inv s o s') : ∃ x, s'.tmps = putT s.tmps o.dst x := by
  rcases h with (⟨x, nb, _, rfl⟩ | ⟨c, g, args, args', r, _, _, _, _, rfl⟩) | (⟨x, H', _, rfl⟩ | ⟨c, g, args, ids, H0, r0, H0', _, _, _, _, _, rfl⟩ | ⟨s1, x, nb, _, _, rfl⟩) <;> exact ⟨_, rfl⟩

theorem list_sound (hIo : InvOk Inv) (hI : Inv w0) {Q : Exit → Act → World → Prop} {l : List Oper} {s s' : St} (hp : Path (OpA P Inv) ops l s s') : ∀ {w : World} {A : Nat → Prop} {M : Nat → Option MB} {a : Act}, SR w0 A0 w A M s a → (∀ a' w', SOk w0 A0 s' a' w' → Q .normal a' w') → wpList P ops Q l a w := by
  induction hp with
  | nil s => intro w A M a hs hQ; exact hQ a w ⟨A, M, hs⟩
  | run hw h hr ih =>
    intro w A M a hs hQ
    have hwt := wanted_of (w := w) (A := A) (M := M) hs.size (fun j want d _ _ hlt => hs.tmps d hlt) hw
    unfold wpList
    rw [if_pos hwt]
    exact .inl (opA_seq hIo hI h hs fun a' w' ⟨A', M', hs'⟩ => ih hs' hQ)
  | skip hw hr ih =>
    intro w A M a hs hQ
    have hwt := wanted_of (w := w) (A := A) (M := M) hs.size (fun j want d _ _ hlt => hs.tmps d hlt) hw
    unfold wpList
    rw [if_neg (by rw [hwt]; simp)]
    exact ih (hs.skip _) hQ

/-- A region in the order of the text. -/
theorem region_seq (hIo : InvOk Inv) (hI : Inv w0) {Q : Exit → Act → World → Prop} {id : Nat} {s s' : St} {a : Act} (hp : Path (OpA P Inv) ops ops.toList s s') (hs : SR w0 A0 w A M s a) (hQ : ∀ a' w', SOk w0 A0 s' a' w' → Q .normal a' w') : (Code.region id ops false).wp P Q a w :=
  wp_region_list (list_sound hIo hI hp hs hQ)

/-! ### Whatever order is drawn -/

def edges (o : Oper) : List Nat := (o.after.toList.filter fun e => Region.binds .any e).map (·.on)

def dstOf (ops : Array Oper) (i : Nat) : Option Tmp := (ops[i]?).bind (·.dst)

/-- An operation that looks at temporaries alone. -/
def floatOp : Op → Bool
  | .move _ => true
  | .binOp .. => true
  | .unOp .. => true
  | .convert .. => true
  | .extract .. => true
  | .field .. => true
  | _ => false

/-- What comes ahead of an operation, as a number's bits. -/
def maskOf (acc : List Nat) (o : Oper) : Nat := (edges o).foldl (fun s e => s ||| 2 ^ e ||| acc.getD e 0) 0

def masksAux : List Oper → List Nat → List Nat
  | [], acc => acc
  | o :: l, acc => masksAux l (acc ++ [maskOf acc o])

def masks (ops : Array Oper) : List Nat := masksAux ops.toList []

/-- One of the first 'm' operations that may come even later. -/
def isFloat (ops : Array Oper) (m i : Nat) : Bool := match ops[i]? with
  | some o => floatOp o.op && (o.guard.isNone && (List.range ops.size).all fun j => decide (j < m) || ((match o.dst with | some d => dstOf ops j != some d | none => true) && (o.looksAt ops).all fun t => dstOf ops j != some t))
  | none => false

/-- The first 'm' operations may come in any order that their edges allow, the others follow one by one; but what looks at temporaries alone may come later. -/
def regOk (ops : Array Oper) (m : Nat) : Bool :=
  (List.range ops.size).all fun j =>
    match ops[j]? with
    | none => true
    | some o =>
      (edges o).all (fun i => decide (i < j)) &&
      (if j < m then
        (match o.dst with | some d => (List.range m).all fun i => i == j || dstOf ops i != some d | none => true) &&
        (o.looksAt ops).all fun t => (List.range m).all fun i => dstOf ops i != some t || (edges o).contains i
       else (List.range j).all fun i => ((masks ops).getD j 0).testBit i || (decide (i < m) && isFloat ops m i))

theorem regOk_spec {m : Nat} (h : regOk ops m = true) {j : Nat} {o : Oper} (ho : ops[j]? = some o) :
    (∀ i, i ∈ edges o → i < j) ∧
    (j < m → (∀ d, o.dst = some d → ∀ i, i < m → dstOf ops i = some d → i = j) ∧ ∀ t, t ∈ o.looksAt ops → ∀ i, i < m → dstOf ops i = some t → i ∈ edges o) ∧
    (m ≤ j → ∀ i, i < j → ((masks ops).getD j 0).testBit i = true ∨ (i < m ∧ isFloat ops m i = true)) := by
  have hj : j < ops.size := by
    rcases Nat.lt_or_ge j ops.size with h' | h'
    · exact h'
    · rw [Array.getElem?_eq_none h'] at ho; simp at ho
  unfold regOk at h
  rw [List.all_eq_true] at h
  have := h j (List.mem_range.2 hj)
  simp only [ho, Bool.and_eq_true, List.all_eq_true, decide_eq_true_eq] at this
  obtain ⟨h1, h2⟩ := this
  refine ⟨h1, fun hjm => ?_, fun hmj i hi => ?_⟩
  · rw [if_pos hjm] at h2
    simp only [Bool.and_eq_true, List.all_eq_true, Bool.or_eq_true, List.mem_range, bne_iff_ne, ne_eq, List.contains_iff_mem] at h2
    obtain ⟨h3, h4⟩ := h2
    refine ⟨fun d hd i hi he => ?_, fun t ht i hi he => ?_⟩
    · rw [hd] at h3
      simp only [List.all_eq_true, List.mem_range, Bool.or_eq_true, beq_iff_eq, bne_iff_ne, ne_eq] at h3
      rcases h3 i hi with h | h
      · exact h
      · exact absurd he h
    · rcases h4 t ht i hi with h | h
      · exact absurd he h
      · exact h
  · rw [if_neg (by omega)] at h2
    simp only [List.all_eq_true, List.mem_range, Bool.or_eq_true, Bool.and_eq_true, decide_eq_true_eq] at h2
    exact h2 i hi

theorem isFloat_spec {m i : Nat} (h : isFloat ops m i = true) : ∃ o, ops[i]? = some o ∧ floatOp o.op = true ∧ o.guard = none ∧ ∀ j, m ≤ j → j < ops.size → (∀ d, o.dst = some d → dstOf ops j ≠ some d) ∧ ∀ t, t ∈ o.looksAt ops → dstOf ops j ≠ some t := by
  unfold isFloat at h
  split at h
  case h_2 => simp at h
  rename_i o ho
  simp only [Bool.and_eq_true, List.all_eq_true, List.mem_range, Bool.or_eq_true, decide_eq_true_eq, bne_iff_ne, ne_eq, Option.isNone_iff_eq_none] at h
  obtain ⟨h1, h2, h3⟩ := h
  refine ⟨o, ho, h1, h2, fun j hm hj => ?_⟩
  rcases h3 j hj with h | ⟨h4, h5⟩
  · omega
  · refine ⟨fun d hd => ?_, fun t ht => h5 t ht⟩
    rw [hd] at h4
    simpa using h4

theorem foldl_bit {acc : List Nat} {i : Nat} : ∀ (l : List Nat) (z : Nat), (l.foldl (fun s e => s ||| 2 ^ e ||| acc.getD e 0) z).testBit i = true → z.testBit i = true ∨ ∃ e, e ∈ l ∧ (i = e ∨ (acc.getD e 0).testBit i = true)
  | [], z, h => .inl h
  | a :: l, z, h => by
    simp only [List.foldl_cons] at h
    rcases foldl_bit l _ h with h | ⟨e, he, h⟩
    · simp only [Nat.testBit_or, Bool.or_eq_true, Nat.testBit_two_pow, decide_eq_true_eq] at h
      rcases h with (h | h) | h
      · exact .inl h
      · exact .inr ⟨a, by simp, .inl h.symm⟩
      · exact .inr ⟨a, by simp, .inr h⟩
    · exact .inr ⟨e, by simp [he], h⟩

theorem masksAux_spec : ∀ (l : List Oper) (acc : List Nat) (j : Nat), j < acc.length → (masksAux l acc).getD j 0 = acc.getD j 0
  | [], acc, j, _ => rfl
  | o :: l, acc, j, hj => by
    simp only [masksAux]
    rw [masksAux_spec l _ j (by simp; omega)]
    simp [List.getD_eq_getElem?_getD, List.getElem?_append, hj]

theorem masksAux_at : ∀ (l : List Oper) (acc : List Nat) (j : Nat) (o : Oper), l[j]? = some o → ∃ acc', (masksAux l acc).getD (acc.length + j) 0 = maskOf acc' o ∧ acc'.length = acc.length + j ∧ ∀ e, e < acc'.length → acc'.getD e 0 = (masksAux l acc).getD e 0
  | [], acc, j, o, h => by simp at h
  | o' :: l, acc, 0, o, h => by
    simp only [List.getElem?_cons_zero, Option.some.injEq] at h
    subst h
    refine ⟨acc, ?_, rfl, fun e he => (masksAux_spec _ acc e he).symm⟩
    simp only [masksAux]
    rw [masksAux_spec l _ _ (by simp)]
    simp [List.getD_eq_getElem?_getD]
  | o' :: l, acc, j + 1, o, h => by
    obtain ⟨acc', h1, h2, h3⟩ := masksAux_at l (acc ++ [maskOf acc o']) j o (by simpa using h)
    simp only [List.length_append, List.length_cons, List.length_nil] at h1 h2
    refine ⟨acc', ?_, by omega, h3⟩
    simp only [masksAux]
    rw [← h1]; congr 1; omega

/-- Of a set of operations that holds whatever comes ahead of each: an operation that may come up has all its bits in it. -/
theorem mask_in {L : Nat → Prop} (hcl : ∀ j o, ops[j]? = some o → L j → ∀ e, e ∈ edges o → L e) : ∀ (j : Nat) (o : Oper), ops[j]? = some o → (∀ e, e ∈ edges o → L e) → ∀ i, ((masks ops).getD j 0).testBit i = true → L i := by
  intro j
  induction j using Nat.strongRecOn with
  | _ j ih =>
    intro o ho he i hi
    obtain ⟨acc', h1, h2, h3⟩ := masksAux_at ops.toList [] j o (by simpa using ho)
    simp only [List.length_nil, Nat.zero_add] at h1 h2
    have h1' : (masks ops).getD j 0 = maskOf acc' o := h1
    rw [h1'] at hi
    rcases foldl_bit _ _ hi with h | ⟨e, hm, h⟩
    · simp at h
    · rcases h with rfl | h
      · exact he i hm
      · by_cases hlt : e < j
        · rw [h3 e (by omega)] at h
          have heo : e < ops.size := by
            have : j < ops.size := by
              rcases Nat.lt_or_ge j ops.size with h' | h'
              · exact h'
              · rw [Array.getElem?_eq_none h'] at ho; simp at ho
            omega
          have hoe : ops[e]? = some ops[e] := by simp [heo]
          exact ih e hlt _ hoe (hcl e _ hoe (he e hm)) i h
        · have : acc'.getD e 0 = 0 := by simp [List.getD_eq_getElem?_getD, List.getElem?_eq_none (show acc'.length ≤ e by omega)]
          rw [this] at h; simp at h

/-- The temporaries of operations that may come later than one. -/
def outT (ops : Array Oper) (m mk : Nat) : List Nat := (List.range m).filterMap fun i => match mk.testBit i with
  | true => none
  | false => dstOf ops i

def maskT : List Nat → List AV → List AV
  | [], ts => ts
  | d :: ds, ts => maskT ds (ts.set d .top)

def restT : List Nat → List AV → List AV → List AV
  | [], _, ts => ts
  | d :: ds, old, ts => restT ds old (ts.set d (old.getD d .top))

theorem maskT_length : ∀ (ml : List Nat) (ts : List AV), (maskT ml ts).length = ts.length
  | [], ts => rfl
  | d :: ds, ts => by simp only [maskT]; rw [maskT_length ds]; simp

theorem restT_length : ∀ (ml : List Nat) (old ts : List AV), (restT ml old ts).length = ts.length
  | [], _, ts => rfl
  | d :: ds, old, ts => by simp only [restT]; rw [restT_length ds]; simp

theorem getD_set_ne {ts : List AV} {d t : Nat} {x : AV} (h : d ≠ t) : (ts.set d x).getD t .top = ts.getD t .top := by
  simp [List.getD_eq_getElem?_getD, List.getElem?_set_ne h]

theorem getD_set_eq {ts : List AV} {t : Nat} {x : AV} (h : t < ts.length) : (ts.set t x).getD t .top = x := by
  simp [List.getD_eq_getElem?_getD, h]

theorem getD_ge {ts : List AV} {t : Nat} (h : ts.length ≤ t) : ts.getD t .top = .top := by
  simp [List.getD_eq_getElem?_getD, List.getElem?_eq_none h]

theorem maskT_notin : ∀ {ml : List Nat} {ts : List AV} {t : Nat}, t ∉ ml → (maskT ml ts).getD t .top = ts.getD t .top
  | [], ts, t, _ => rfl
  | d :: ds, ts, t, h => by
    simp only [List.mem_cons, not_or] at h
    simp only [maskT]
    rw [maskT_notin h.2, getD_set_ne (fun e => h.1 e.symm)]

theorem maskT_top : ∀ {ml : List Nat} {ts : List AV} {t : Nat}, ts.getD t .top = .top → (maskT ml ts).getD t .top = .top
  | [], ts, t, h => h
  | d :: ds, ts, t, h => by
    simp only [maskT]
    refine maskT_top ?_
    by_cases hd : d = t
    · subst hd
      by_cases hlt : d < ts.length
      · exact getD_set_eq hlt
      · simp [List.getD_eq_getElem?_getD, List.getElem?_eq_none (show (ts.set d .top).length ≤ d by simp; omega)]
    · rw [getD_set_ne hd]; exact h

theorem maskT_in : ∀ {ml : List Nat} {ts : List AV} {t : Nat}, t ∈ ml → (maskT ml ts).getD t .top = .top
  | d :: ds, ts, t, h => by
    simp only [maskT]
    rcases List.mem_cons.1 h with rfl | h
    · refine maskT_top ?_
      by_cases hlt : t < ts.length
      · exact getD_set_eq hlt
      · simp [List.getD_eq_getElem?_getD, List.getElem?_eq_none (show (ts.set t .top).length ≤ t by simp; omega)]
    · exact maskT_in h

theorem restT_notin : ∀ {ml : List Nat} {old ts : List AV} {t : Nat}, t ∉ ml → (restT ml old ts).getD t .top = ts.getD t .top
  | [], _, ts, t, _ => rfl
  | d :: ds, old, ts, t, h => by
    simp only [List.mem_cons, not_or] at h
    simp only [restT]
    rw [restT_notin h.2, getD_set_ne (fun e => h.1 e.symm)]

theorem restT_in : ∀ {ml : List Nat} {old ts : List AV} {t : Nat}, t ∈ ml → t < ts.length → (restT ml old ts).getD t .top = old.getD t .top
  | d :: ds, old, ts, t, h, hlt => by
    simp only [restT]
    by_cases hin : t ∈ ds
    · exact restT_in hin (by simpa using hlt)
    · rcases List.mem_cons.1 h with rfl | h
      · rw [restT_notin hin, getD_set_eq hlt]
      · exact absurd h hin

/-- The operations behind the first 'm', one by one; what need not have come yet is not looked at. -/
inductive TPath (P : Program) (Inv : IV) (ops : Array Oper) (m : Nat) : Nat → List Oper → St → St → Prop where
  | nil (k : Nat) (s : St) : TPath P Inv ops m k [] s s
  | run {k : Nat} {o : Oper} {rest : List Oper} {s s1 s2 : St} (ml : List Nat) (hml : ml = outT ops m ((masks ops).getD k 0)) (hw : awanted ops (maskT ml s.tmps) o = some true) (h : OpA P Inv ⟨maskT ml s.tmps, s.heap⟩ o s1)
      (hr : TPath P Inv ops m (k + 1) rest ⟨restT ml s.tmps s1.tmps, s1.heap⟩ s2) : TPath P Inv ops m k (o :: rest) s s2
  | skip {k : Nat} {o : Oper} {rest : List Oper} {s s2 : St} (ml : List Nat) (hml : ml = outT ops m ((masks ops).getD k 0)) (hw : awanted ops (maskT ml s.tmps) o = some false)
      (hr : TPath P Inv ops m (k + 1) rest ⟨putT s.tmps o.dst (.tuple []), s.heap⟩ s2) : TPath P Inv ops m k (o :: rest) s s2

theorem fop_float {P : Program} {ρ ρ' : Operand → AV} {H H' : List Box} {n n' : Nat} {op : Op} {x : AV} {nb : Option Box} (hf : floatOp op = true) (hρ : ∀ a, a ∈ op.operands.toList → ρ' a = ρ a) (h : fop P ρ H n op = some (x, nb)) : nb = none ∧ fop P ρ' H' n' op = some (x, none) := by
  cases op with
  | move x' =>
    have e := hρ x' (by simp [Op.operands])
    simp only [fop] at h ⊢
    rw [e]
    simp only [Option.some.injEq, Prod.mk.injEq] at h; obtain ⟨rfl, rfl⟩ := h
    exact ⟨rfl, rfl⟩
  | binOp b t x' y' t' =>
    have e1 := hρ x' (by simp [Op.operands])
    have e2 := hρ y' (by simp [Op.operands])
    simp only [fop] at h ⊢
    rw [e1, e2]
    split at h
    · rename_i r hr
      simp only [Option.some.injEq, Prod.mk.injEq] at h; obtain ⟨rfl, rfl⟩ := h
      simp only [hr]; exact ⟨trivial, trivial⟩
    · simp at h
  | unOp u t x' =>
    have e := hρ x' (by simp [Op.operands])
    simp only [fop] at h ⊢
    rw [e]
    split at h
    · rename_i r hr
      simp only [Option.some.injEq, Prod.mk.injEq] at h; obtain ⟨rfl, rfl⟩ := h
      simp only [hr]; exact ⟨trivial, trivial⟩
    · simp at h
  | convert t t' x' =>
    have e := hρ x' (by simp [Op.operands])
    simp only [fop] at h ⊢
    rw [e]
    split at h
    · rename_i r hr
      simp only [Option.some.injEq, Prod.mk.injEq] at h; obtain ⟨rfl, rfl⟩ := h
      simp only [hr]; exact ⟨trivial, trivial⟩
    · simp at h
  | extract x' i =>
    have e := hρ x' (by simp [Op.operands])
    simp only [fop] at h ⊢
    rw [e]
    split at h
    · rename_i vs hvs
      split at h
      · rename_i v hv
        simp only [Option.some.injEq, Prod.mk.injEq] at h; obtain ⟨rfl, rfl⟩ := h
        simp only [hvs, hv]; exact ⟨trivial, trivial⟩
      · simp at h
    · simp at h
  | field t x' f =>
    have e := hρ x' (by simp [Op.operands])
    simp only [fop] at h ⊢
    rw [e]
    split at h
    · rename_i r hr
      simp only [Option.some.injEq, Prod.mk.injEq] at h; obtain ⟨rfl, rfl⟩ := h
      simp only [hr]; exact ⟨trivial, trivial⟩
    · simp at h
  | _ => simp [floatOp] at hf

/-- The states along a path. -/
theorem path_states {Step : St → Oper → St → Prop} {l : List Oper} {s s' : St} (hp : Path Step ops l s s') :
    ∃ st : Nat → St, st 0 = s ∧ st l.length = s' ∧ ∀ j o, l[j]? = some o → (awanted ops (st j).tmps o = some true ∧ Step (st j) o (st (j + 1))) ∨ (awanted ops (st j).tmps o = some false ∧ st (j + 1) = ⟨putT (st j).tmps o.dst (.tuple []), (st j).heap⟩) := by
  induction hp with
  | nil s => exact ⟨fun _ => s, rfl, rfl, fun j o h => by simp at h⟩
  | @run o rest s s1 s2 hw h hr ih =>
    obtain ⟨st, h0, h1, h2⟩ := ih
    refine ⟨fun k => match k with | 0 => s | k + 1 => st k, rfl, h1, fun j o' ho' => ?_⟩
    cases j with
    | zero => simp only [List.getElem?_cons_zero, Option.some.injEq] at ho'; subst ho'; left; exact ⟨hw, by show Step s o (st 0); rw [h0]; exact h⟩
    | succ j => exact h2 j o' (by simpa using ho')
  | @skip o rest s s2 hw hr ih =>
    obtain ⟨st, h0, h1, h2⟩ := ih
    refine ⟨fun k => match k with | 0 => s | k + 1 => st k, rfl, h1, fun j o' ho' => ?_⟩
    cases j with
    | zero => simp only [List.getElem?_cons_zero, Option.some.injEq] at ho'; subst ho'; right; exact ⟨hw, h0⟩
    | succ j => exact h2 j o' (by simpa using ho')

theorem putT_getD_ne {ts : List AV} {d : Option Tmp} {x : AV} {t : Nat} (h : d ≠ some t) : (putT ts d x).getD t .top = ts.getD t .top := by
  cases d with
  | none => rfl
  | some d =>
    have hne : d ≠ t := fun e => h (by rw [e])
    simp [putT, List.getD_eq_getElem?_getD, List.getElem?_set_ne hne]

theorem putT_getD_eq {ts : List AV} {x : AV} {t : Nat} (h : t < ts.length) : (putT ts (some t) x).getD t .top = x := by
  simp [putT, List.getD_eq_getElem?_getD, h]

theorem putT_length {ts : List AV} {d : Option Tmp} {x : AV} : (putT ts d x).length = ts.length := by cases d <;> simp [putT]

theorem countP_lt {l : List Nat} {p q : Nat → Bool} (h : ∀ x, x ∈ l → p x = true → q x = true) {y : Nat} (hy : y ∈ l) (h1 : p y = false) (h2 : q y = true) : l.countP p < l.countP q := by
  induction l with
  | nil => simp at hy
  | cons x l ih =>
    have hle : l.countP p ≤ l.countP q := List.countP_mono_left fun z hz => h z (by simp [hz])
    rcases List.mem_cons.1 hy with rfl | hy'
    · simp only [List.countP_cons, h1, h2, if_true, Bool.false_eq_true, if_false]; omega
    · have := ih (fun z hz => h z (by simp [hz])) hy'
      simp only [List.countP_cons]
      have hx := h x (by simp)
      cases hp : p x <;> cases hq : q x <;> simp_all <;> omega

/-- Of the operations that have not come up the first may come up. -/
theorem ready_first {m : Nat} (hok : regOk ops m = true) {listed : Array Bool} (hsz : listed.size = ops.size) {j : Nat} (hj : j < ops.size) (hn : listed.getD j false = false) (hall : ∀ i, i < j → listed.getD i false = true) : j ∈ Region.ready .any ops listed := by
  rw [mem_ready]
  have hjl : j < listed.size := by omega
  refine ⟨by simpa [hjl] using hn, ops[j], by simp [hj], fun e he hb => ?_⟩
  have := (regOk_spec hok (j := j) (o := ops[j]) (by simp [hj])).1 e.on (List.mem_map.2 ⟨e, List.mem_filter.2 ⟨Array.mem_toList_iff.2 he, hb⟩, rfl⟩)
  exact hall _ this

theorem exists_first {n : Nat} {p : Nat → Bool} : ∀ k, k ≤ n → (∀ i, i < k → p i = true) → (∀ i, i < n → p i = true) ∨ ∃ j, j < n ∧ p j = false ∧ ∀ i, i < j → p i = true := by
  intro k hk h
  induction hd : n - k generalizing k with
  | zero => exact .inl fun i hi => h i (by omega)
  | succ d ih =>
    cases hp : p k with
    | false => exact .inr ⟨k, by omega, hp, h⟩
    | true => exact ih (k + 1) (by omega) (fun i hi => by rcases Nat.lt_or_eq_of_le (Nat.le_of_lt_succ hi) with h' | rfl; exact h i h'; exact hp) (by omega)

def unl (n : Nat) (listed : Array Bool) : Nat := (List.range n).countP fun i => !listed.getD i false

theorem unl_set {n : Nat} {listed : Array Bool} (hsz : listed.size = n) {j : Nat} (hj : j < n) (hn : listed.getD j false = false) : unl n (listed.setIfInBounds j true) < unl n listed := by
  refine countP_lt (fun x hx hp => ?_) (List.mem_range.2 hj) ?_ (by simp [hn])
  · by_cases hxj : j = x
    · subst hxj; have : j < listed.size := by omega
      simp [this] at hp
    · simpa [Array.getElem?_setIfInBounds_ne hxj] using hp
  · have : j < listed.size := by omega
    simp [this]

/-- What holds while the operations behind the first 'm' come up. -/
structure DB (P : Program) (ops : Array Oper) (m : Nat) (s : St) (w0 : World) (A0 : Cx) (listed : Array Bool) (w : World) (A : Nat → Prop) (M : Nat → Option MB) (a : Act) : Prop where
  base : Below w0.heap.size w0 w
  outer : ∀ b, b < w0.heap.size → (A b ↔ A0.av b)
  size : a.tmps.size = s.tmps.length
  tmps : ∀ t, t < s.tmps.length → (∀ i, i < m → dstOf ops i = some t → listed.getD i false = true) → Rel w A M (a.tmps.getD t undef) (s.tmps.getD t .top)
  heap : HR w A M w0.heap.size s.heap
  defers : a.defers = []
  ev : Ev A0 w A M
  later : ∀ i o, i < m → ops[i]? = some o → listed.getD i false = false → ∃ x, fop P s.eval [] 0 o.op = some (x, none) ∧ ∀ d, o.dst = some d → d < s.tmps.length → s.tmps.getD d .top = x

theorem looks_operand {o : Oper} {t : Tmp} (h : Operand.tmp t ∈ o.op.operands.toList) : t ∈ o.looksAt ops := by
  unfold Oper.looksAt
  exact List.mem_append.2 (.inl (List.mem_filterMap.2 ⟨.tmp t, h, rfl⟩))

theorem looks_guard {o : Oper} {j : Nat} {want : Bool} {d : Tmp} (hg : o.guard = some (j, want)) (hd : (ops[j]?).bind (·.dst) = some d) : d ∈ o.looksAt ops := by
  unfold Oper.looksAt
  refine List.mem_append.2 (.inr ?_)
  simp [hg, hd]

theorem eval_congr {s s' : St} {o : Oper} (h : ∀ t, t ∈ o.looksAt ops → s'.tmps.getD t .top = s.tmps.getD t .top) : ∀ y, y ∈ o.op.operands.toList → s'.eval y = s.eval y := fun y hy => by
  cases y with
  | tmp t => exact h t (looks_operand hy)
  | const v => rfl
  | global g => rfl
  | func f => rfl

/-- The operations behind the first 'm'. -/
theorem tail_sound (hIo : InvOk Inv) (hI : Inv w0) {Q : Exit → Act → World → Prop} {m : Nat} (hok : regOk ops m = true) {s2 : St} (hQ : ∀ a' w', SOk w0 A0 s2 a' w' → Q .normal a' w') :
    ∀ (fuel k : Nat) (listed : Array Bool) (s : St) (w : World) (A : Nat → Prop) (M : Nat → Option MB) (a : Act), m ≤ k → k ≤ ops.size → listed.size = ops.size →
      (∀ i, m ≤ i → i < k → listed.getD i false = true) → (∀ i, k ≤ i → i < ops.size → listed.getD i false = false) → (∀ i, i < m → listed.getD i false = false → isFloat ops m i = true) →
      (∀ j o, ops[j]? = some o → listed.getD j false = true → ∀ e, e ∈ edges o → listed.getD e false = true) →
      unl ops.size listed ≤ fuel → TPath P Inv ops m k (ops.toList.drop k) s s2 → DB P ops m s w0 A0 listed w A M a → wpAny P .any ops Q fuel listed a w := by
  intro fuel
  induction fuel with
  | zero =>
    intro k listed s w A M a hm hk hsz h1 h2 h3 hcl hf hp hd
    have hall : ∀ i, i < ops.size → listed.getD i false = true := by
      intro i hi
      cases hl : listed.getD i false with
      | true => rfl
      | false =>
        have : 0 < unl ops.size listed := List.countP_pos_iff.2 ⟨i, List.mem_range.2 hi, by simp only [hl]; rfl⟩
        omega
    have hkn : k = ops.size := by
      rcases Nat.lt_or_eq_of_le hk with h | h
      · have := h2 k (Nat.le_refl _) h; rw [hall k h] at this; simp at this
      · exact h
    subst hkn
    have hnil : ops.toList.drop ops.size = [] := List.drop_eq_nil_of_le (by simp)
    rw [hnil] at hp
    cases hp
    refine ⟨?_, hQ a w ⟨A, M, hd.base, hd.outer, hd.size, fun t ht => hd.tmps t ht fun i hi _ => hall i (by omega), hd.heap, hd.defers, hd.ev⟩⟩
    rw [List.eq_nil_iff_forall_not_mem]
    intro i hi
    obtain ⟨hu, o, ho, _⟩ := mem_ready.1 hi
    have hi' : i < ops.size := by
      rcases Nat.lt_or_ge i ops.size with h' | h'
      · exact h'
      · rw [Array.getElem?_eq_none h'] at ho; simp at ho
    have := hall i hi'
    have hil : i < listed.size := by omega
    simp [hil] at hu this
    rw [this] at hu; simp at hu
  | succ fuel ih =>
    intro k listed s w A M a hm hk hsz h1 h2 h3 hcl hf hp hd
    rcases exists_first (n := ops.size) (p := fun i => listed.getD i false) 0 (Nat.zero_le _) (fun i hi => by omega) with hall | ⟨j0, hj0, hn0, hbef⟩
    · have hkn : k = ops.size := by
        rcases Nat.lt_or_eq_of_le hk with h | h
        · have := h2 k (Nat.le_refl _) h; have h' : listed.getD k false = true := hall k h; rw [h'] at this; simp at this
        · exact h
      subst hkn
      have hnil : ops.toList.drop ops.size = [] := List.drop_eq_nil_of_le (by simp)
      rw [hnil] at hp
      cases hp
      refine ⟨fun _ => hQ a w ⟨A, M, hd.base, hd.outer, hd.size, fun t ht => hd.tmps t ht fun i hi _ => hall i (by omega), hd.heap, hd.defers, hd.ev⟩, fun i hi => ?_⟩
      exfalso
      obtain ⟨hu, o, ho, _⟩ := mem_ready.1 hi
      have hi' : i < ops.size := by
        rcases Nat.lt_or_ge i ops.size with h' | h'
        · exact h'
        · rw [Array.getElem?_eq_none h'] at ho; simp at ho
      have := hall i hi'
      have hil : i < listed.size := by omega
      simp [hil] at hu this
      rw [this] at hu; simp at hu
    have hrdy := ready_first hok hsz hj0 hn0 hbef
    refine ⟨fun h => by rw [h] at hrdy; simp at hrdy, fun j hj => ?_⟩
    obtain ⟨hu, o, ho, hall⟩ := mem_ready.1 hj
    have hjs : j < ops.size := by
      rcases Nat.lt_or_ge j ops.size with h' | h'
      · exact h'
      · rw [Array.getElem?_eq_none h'] at ho; simp at ho
    have hjl : j < listed.size := by omega
    have hun : listed.getD j false = false := by simpa [hjl] using hu
    have hedge : ∀ i, i ∈ edges o → listed.getD i false = true := by
      intro i hi
      obtain ⟨e, he, hek⟩ := List.mem_map.1 hi
      obtain ⟨he1, he2⟩ := List.mem_filter.1 he
      have := hall e (Array.mem_toList_iff.1 he1) he2
      rwa [hek] at this
    have hmk := mask_in (L := fun i => listed.getD i false = true) hcl j o ho hedge
    obtain ⟨hE1, hE2, hE3⟩ := regOk_spec hok ho
    have hlist' : ∀ i, (listed.setIfInBounds j true).getD i false = true ↔ (i = j ∨ listed.getD i false = true) := by
      intro i
      by_cases hij : j = i
      · subst hij; simp [hjl]
      · have : ¬ i = j := fun e => hij e.symm
        simp [Array.getElem?_setIfInBounds_ne hij, this]
    have hlistf : ∀ i, (listed.setIfInBounds j true).getD i false = false → i ≠ j ∧ listed.getD i false = false := by
      intro i hi
      by_cases hij : j = i
      · subst hij; simp [hjl] at hi
      · exact ⟨fun e => hij e.symm, by simpa [Array.getElem?_setIfInBounds_ne hij] using hi⟩
    have hfuel' : unl ops.size (listed.setIfInBounds j true) ≤ fuel := by
      have := unl_set hsz hjs hun
      omega
    have hcl' : ∀ j' o', ops[j']? = some o' → (listed.setIfInBounds j true).getD j' false = true → ∀ e, e ∈ edges o' → (listed.setIfInBounds j true).getD e false = true := by
      intro j' o' ho' hl e he
      rcases (hlist' j').1 hl with rfl | hl
      · rw [ho] at ho'; simp only [Option.some.injEq] at ho'; subst ho'
        exact (hlist' e).2 (.inr (hedge e he))
      · exact (hlist' e).2 (.inr (hcl j' o' ho' hl e he))
    have hnotin : ∀ i, (listed.setIfInBounds j true).getD i false = false ↔ ¬ (i = j ∨ listed.getD i false = true) := by
      intro i
      rw [← hlist']
      cases (listed.setIfInBounds j true).getD i false <;> simp
    rcases Nat.lt_or_ge j m with hjm | hjm
    · -- one that may come later
      obtain ⟨o', ho', hfl, hgu, htail⟩ := isFloat_spec (h3 j hjm hun)
      rw [ho] at ho'; simp only [Option.some.injEq] at ho'; subst ho'
      obtain ⟨hsingle, hlook⟩ := hE2 hjm
      obtain ⟨x, hfx, hdx⟩ := hd.later j o hjm ho hun
      have hseen : ∀ y, y ∈ o.op.operands.toList → Rel w A M (a.eval y) (s.eval y) := fun y hy => by
        cases y with
        | tmp t =>
          by_cases htl : t < s.tmps.length
          · exact hd.tmps t htl fun i hi he => hedge i (hlook t (looks_operand hy) i hi he)
          · have : s.eval (.tmp t) = .top := by simp [St.eval, List.getD_eq_getElem?_getD, List.getElem?_eq_none (Nat.le_of_not_lt htl)]
            rw [this]; exact .top _
        | const v => exact rel_avOf w A M v
        | global g => exact .gptr g
        | func f => exact .func f #[] [] rfl (by simp)
      have hfx' := (fop_float (ρ' := s.eval) (H' := s.heap) (n' := s.heap.length) hfl (fun _ _ => rfl) hfx).2
      have hn' : M s.heap.length = none := hd.heap.none_of_length (Nat.le_refl _)
      obtain ⟨v, w', A', M', hrun, hbel, hext, hA, hM, hR', hr⟩ := fop_sound (o := o) (ρc := a.eval) hfx' hseen hd.heap hd.base.size hn' (by simp)
      have hmv : Mv w A M w' A' M' := ⟨hbel.size, fun b hb _ => hbel.block b hb, fun b hb h => (hA b hb).1 h, fun b hb h _ => (hA b hb).2 h, hext, .of_new hbel fun id mm hmm => by
        by_cases hid : id = s.heap.length
        · subst hid; exact hM.2 mm hmm
        · rw [hM.1 id hid] at hmm; exact .inl hmm⟩
      unfold wpOp
      simp only [ho]
      have hwt : Region.wanted o (yielded ops a.tmps) = true := by simp [Region.wanted, hgu]
      rw [if_pos hwt]
      left
      unfold Oper.wp
      rw [hrun]
      refine ih k (listed.setIfInBounds j true) s w' A' M' (a.put o.dst v) hm hk (by simp [hsz]) (fun i g1 g2 => (hlist' i).2 (.inr (h1 i g1 g2))) (fun i g1 g2 => (hnotin i).2 (by rw [h2 i g1 g2]; simp; omega)) (fun i g1 g2 => h3 i g1 (hlistf i g2).2) hcl' hfuel' hp
        ⟨hd.base.trans (hbel.mono hd.base.size), fun b hb => (hA b (Nat.lt_of_lt_of_le hb hd.base.size)).trans (hd.outer b hb), ?_, fun t htl hwr => ?_, hR', by rw [put_defers]; exact hd.defers, hd.ev.step hmv, fun i o' g1 g2 g3 => hd.later i o' g1 g2 (hlistf i g3).2⟩
      · cases hdd : o.dst with
        | none => exact hd.size
        | some d => simp [Act.put, hd.size]
      · by_cases hdt : o.dst = some t
        · have e1 : (a.put o.dst v).tmps.getD t undef = v := by
            have : t < a.tmps.size := by rw [hd.size]; exact htl
            simp [Act.put, hdt, this]
          rw [e1, hdx t hdt htl]; exact hr
        · have e1 : (a.put o.dst v).tmps.getD t undef = a.tmps.getD t undef := by
            cases hdd : o.dst with
            | none => rfl
            | some d =>
              have hne : d ≠ t := fun e => hdt (by rw [hdd, e])
              simp [Act.put, Array.getElem?_setIfInBounds_ne hne]
          rw [e1]
          refine hmv.rel (hd.tmps t htl fun i hi he => ?_)
          rcases (hlist' i).1 (hwr i hi he) with rfl | h
          · exact absurd (by simpa [dstOf, ho] using he) hdt
          · exact h
    · -- the next one
      have hjk : j = k := by
        rcases Nat.lt_trichotomy j k with hlt | heq | hgt
        · have := h1 j hjm hlt; rw [hun] at this; simp at this
        · exact heq
        · rcases hE3 hjm k hgt with h | ⟨h, _⟩
          · have : listed.getD k false = true := hmk k h
            rw [h2 k (Nat.le_refl _) (by omega)] at this; simp at this
          · omega
      subst hjk
      have hdrop : ops.toList.drop j = o :: ops.toList.drop (j + 1) := by
        rw [List.drop_eq_getElem_cons (by simpa using hjs)]
        congr 1
        have : ops[j]? = some ops[j] := by simp [hjs]
        rw [this] at ho
        simpa using ho
      rw [hdrop] at hp
      have hml : ∀ t, t ∈ outT ops m ((masks ops).getD j 0) → ∃ i, i < m ∧ dstOf ops i = some t ∧ isFloat ops m i = true := fun t ht => by
        unfold outT at ht
        obtain ⟨i, hi, hit⟩ := List.mem_filterMap.1 ht
        have him := List.mem_range.1 hi
        split at hit
        · simp at hit
        · rename_i hb
          refine ⟨i, him, hit, ?_⟩
          rcases hE3 hjm i (by omega) with h | h
          · rw [h] at hb; simp at hb
          · exact h.2
      have hnm : ∀ t, t ∉ outT ops m ((masks ops).getD j 0) → ∀ i, i < m → dstOf ops i = some t → listed.getD i false = true := fun t ht i hi he => by
        cases hb : ((masks ops).getD j 0).testBit i with
        | true => exact hmk i hb
        | false => exact absurd (List.mem_filterMap.2 ⟨i, List.mem_range.2 hi, by rw [hb]; exact he⟩) ht
      have hdst : ∀ t, t ∈ outT ops m ((masks ops).getD j 0) → o.dst ≠ some t := fun t ht => by
        obtain ⟨i, hi, he, hfl⟩ := hml t ht
        obtain ⟨oi, hoi, _, _, htl⟩ := isFloat_spec hfl
        have := (htl j hjm hjs).1 t (by simpa [dstOf, hoi] using he)
        simpa [dstOf, ho] using this
      have hSR : SR w0 A0 w A M ⟨maskT (outT ops m ((masks ops).getD j 0)) s.tmps, s.heap⟩ a := by
        refine ⟨hd.base, hd.outer, by rw [maskT_length]; exact hd.size, fun t ht => ?_, hd.heap, hd.defers, hd.ev⟩
        simp only [maskT_length] at ht
        by_cases hin : t ∈ outT ops m ((masks ops).getD j 0)
        · simp only [maskT_in hin]; exact .top _
        · simp only [maskT_notin hin]; exact hd.tmps t ht (hnm t hin)
      have hlater : ∀ (s' : St), s'.tmps.length = s.tmps.length → (∀ t, o.dst ≠ some t → s'.tmps.getD t .top = s.tmps.getD t .top) → ∀ i o', i < m → ops[i]? = some o' → (listed.setIfInBounds j true).getD i false = false → ∃ x, fop P s'.eval [] 0 o'.op = some (x, none) ∧ ∀ d, o'.dst = some d → d < s'.tmps.length → s'.tmps.getD d .top = x := by
        intro s' hlen hsame i o' g1 g2 g3
        have g4 := (hlistf i g3).2
        obtain ⟨x, hx1, hx2⟩ := hd.later i o' g1 g2 g4
        obtain ⟨oi, hoi, hfl, _, htl⟩ := isFloat_spec (h3 i g1 g4)
        rw [g2] at hoi; simp only [Option.some.injEq] at hoi; subst hoi
        obtain ⟨t1, t2⟩ := htl j hjm hjs
        have hd1 : dstOf ops j = o.dst := by simp [dstOf, ho]
        rw [hd1] at t1 t2
        refine ⟨x, (fop_float hfl (eval_congr (ops := ops) fun t ht => hsame t (t2 t ht)) hx1).2, fun d hd' hlt => ?_⟩
        rw [hsame d (t1 d hd')]
        exact hx2 d hd' (by rw [← hlen]; exact hlt)
      unfold wpOp
      simp only [ho]
      cases hp with
      | @run _ _ _ _ s1 _ ml hmle hw h hr =>
        subst hmle
        have hwt := wanted_of (w := w) (A := A) (M := M) hSR.size (fun jg want d _ _ hlt => hSR.tmps d hlt) hw
        rw [if_pos hwt]
        left
        obtain ⟨x, hx⟩ := opA_tmps h
        have hl1 : s1.tmps.length = s.tmps.length := by rw [hx, putT_length, maskT_length]
        refine opA_seq' hIo hI h hSR fun v w' A' M' hs1 hmv => ?_
        refine ih (j + 1) (listed.setIfInBounds j true) _ w' A' M' (a.put o.dst v) (by omega) (by omega) (by simp [hsz]) (fun i g1 g2 => (hlist' i).2 (by
          by_cases hij : i = j
          · exact .inl hij
          · exact .inr (h1 i g1 (by omega)))) (fun i g1 g2 => (hnotin i).2 (by rw [h2 i (by omega) g2]; simp; omega)) (fun i g1 g2 => h3 i g1 (hlistf i g2).2) hcl' hfuel' hr
          ⟨hs1.base, hs1.outer, by simp only [restT_length]; exact hs1.size, fun t htl hwr => ?_, hs1.heap, hs1.defers, hs1.ev, hlater _ (by simp only [restT_length]; exact hl1) fun t ht => ?_⟩
        · simp only [restT_length] at htl
          by_cases hin : t ∈ outT ops m ((masks ops).getD j 0)
          · simp only [restT_in hin htl]
            have e1 : (a.put o.dst v).tmps.getD t undef = a.tmps.getD t undef := by
              cases hdd : o.dst with
              | none => rfl
              | some d =>
                have hne : d ≠ t := fun e => hdst t hin (by rw [hdd, e])
                simp [Act.put, Array.getElem?_setIfInBounds_ne hne]
            rw [e1]
            refine hmv.rel (hd.tmps t (by omega) fun i hi he => ?_)
            rcases (hlist' i).1 (hwr i hi he) with rfl | h
            · omega
            · exact h
          · simp only [restT_notin hin]; exact hs1.tmps t htl
        · by_cases hin : t ∈ outT ops m ((masks ops).getD j 0)
          · by_cases hlt : t < s1.tmps.length
            · exact restT_in hin hlt
            · rw [getD_ge (show s.tmps.length ≤ t by rw [← hl1]; exact Nat.le_of_not_lt hlt)]
              exact getD_ge (by simp only [restT_length]; exact Nat.le_of_not_lt hlt)
          · simp only [restT_notin hin]
            rw [hx, putT_getD_ne ht, maskT_notin hin]
      | skip ml hmle hw hr =>
        subst hmle
        have hwt := wanted_of (w := w) (A := A) (M := M) hSR.size (fun jg want d _ _ hlt => hSR.tmps d hlt) hw
        rw [if_neg (by rw [hwt]; simp)]
        refine ih (j + 1) (listed.setIfInBounds j true) _ w A M (a.put o.dst undef) (by omega) (by omega) (by simp [hsz]) (fun i g1 g2 => (hlist' i).2 (by
          by_cases hij : i = j
          · exact .inl hij
          · exact .inr (h1 i g1 (by omega)))) (fun i g1 g2 => (hnotin i).2 (by rw [h2 i (by omega) g2]; simp; omega)) (fun i g1 g2 => h3 i g1 (hlistf i g2).2) hcl' hfuel' hr
          ⟨hd.base, hd.outer, ?_, fun t htl hwr => ?_, hd.heap, by rw [put_defers]; exact hd.defers, hd.ev, hlater _ (by simp only [putT_length]) fun t ht => putT_getD_ne ht⟩
        · simp only [putT_length]
          cases hdd : o.dst with
          | none => exact hd.size
          | some d => simp [Act.put, hd.size]
        · simp only [putT_length] at htl
          by_cases hdt : o.dst = some t
          · have e1 : (a.put o.dst undef).tmps.getD t undef = undef := by
              have : t < a.tmps.size := by rw [hd.size]; exact htl
              simp [Act.put, hdt, this]
            rw [e1]
            simp only [hdt, putT_getD_eq htl]
            exact Rel.tuple #[] [] rfl (by simp)
          · have e1 : (a.put o.dst undef).tmps.getD t undef = a.tmps.getD t undef := by
              cases hdd : o.dst with
              | none => rfl
              | some d =>
                have hne : d ≠ t := fun e => hdt (by rw [hdd, e])
                simp [Act.put, Array.getElem?_setIfInBounds_ne hne]
            rw [e1]
            simp only [putT_getD_ne hdt]
            refine hd.tmps t htl fun i hi he => ?_
            rcases (hlist' i).1 (hwr i hi he) with rfl | h
            · omega
            · exact h

end
end Go.Sim
/- A region whose order is drawn from the tape: its first operations in whatever order. -/
set_option linter.unusedVariables false
set_option linter.unusedSimpArgs false
set_option linter.unnecessarySimpa false
namespace Go.Sim
open Go.RowKit

section
variable {P : Program} {Inv : IV} {w0 w : World} {A0 : Cx} {A : Nat → Prop} {M : Nat → Option MB} {ops : Array Oper}

/-- What holds while the first 'm' operations come up: of those that have come up the temporaries hold what they hold in the end. -/
structure DInv (ops : Array Oper) (m : Nat) (st : Nat → St) (w0 : World) (A0 : Cx) (listed : Array Bool) (w : World) (A : Nat → Prop) (M : Nat → Option MB) (a : Act) : Prop where
  base : Below w0.heap.size w0 w
  outer : ∀ b, b < w0.heap.size → (A b ↔ A0.av b)
  size : a.tmps.size = (st m).tmps.length
  tmps : ∀ t, t < (st m).tmps.length → (∀ i, i < m → dstOf ops i = some t → listed.getD i false = true) → Rel w A M (a.tmps.getD t undef) ((st m).tmps.getD t .top)
  heap : HR w A M w0.heap.size (st m).heap
  ev : Ev A0 w A M
  ids : ∀ id mm, M id = some mm → id < (st 0).heap.length ∨ ∃ i, i < m ∧ listed.getD i false = true ∧ id = (st i).heap.length ∧ (st i).heap.length < (st (i + 1)).heap.length
  defers : a.defers = []

/-- A region whose order the tape draws. -/
theorem region_draw (hmx : P.follows .mixedOrders = true) (hIo : InvOk Inv) (hI : Inv w0) {Q : Exit → Act → World → Prop} {id m : Nat} (hok : regOk ops m = true) (hmn : m ≤ ops.size) {s s1 s2 : St} {a : Act}
    (hF : Path (OpF P Inv) ops (ops.toList.take m) s s1) (hT : TPath P Inv ops m m (ops.toList.drop m) s1 s2) (hs : SR w0 A0 w A M s a) (hQ : ∀ a' w', SOk w0 A0 s2 a' w' → Q .normal a' w') : (Code.region id ops true).wp P Q a w := by
  obtain ⟨st, hst0, hstm, hstep⟩ := path_states hF
  have hlm : (ops.toList.take m).length = m := by simp; omega
  rw [hlm] at hstm
  have hstep' : ∀ j o, j < m → ops[j]? = some o → (awanted ops (st j).tmps o = some true ∧ OpF P Inv (st j) o (st (j + 1))) ∨ (awanted ops (st j).tmps o = some false ∧ st (j + 1) = ⟨putT (st j).tmps o.dst (.tuple []), (st j).heap⟩) := by
    intro j o hj ho
    refine hstep j o ?_
    rw [List.getElem?_take, if_pos hj]
    simpa using ho
  have hop : ∀ j, j < m → ∃ o, ops[j]? = some o := fun j hj => ⟨ops[j], by simp [show j < ops.size by omega]⟩
  have hsub1 : ∀ j, j < m → HSub (st j).heap (st (j + 1)).heap := by
    intro j hj
    obtain ⟨o, ho⟩ := hop j hj
    rcases hstep' j o hj ho with ⟨_, h⟩ | ⟨_, h⟩
    · exact h.sub
    · rw [h]; exact HSub.refl _
  have hsub : ∀ k j, j + k ≤ m → HSub (st j).heap (st (j + k)).heap := by
    intro k
    induction k with
    | zero => intro j _; exact HSub.refl _
    | succ k ih => intro j hj; exact (ih j (by omega)).trans (hsub1 (j + k) (by omega))
  have hsubm : ∀ j, j ≤ m → HSub (st j).heap (st m).heap := fun j hj => by have := hsub (m - j) j (by omega); rwa [show j + (m - j) = m by omega] at this
  have hlen_of : ∀ h H : List Box, HSub h H → h.length ≤ H.length := by
    intro h H hs
    rcases Nat.lt_or_ge H.length h.length with hlt | hge
    · obtain ⟨f, hf, _⟩ := hs H.length h[H.length] (by simp [hlt])
      simp at hf
    · exact hge
  have hlen : ∀ i j, i ≤ j → j ≤ m → (st i).heap.length ≤ (st j).heap.length := fun i j hij hj => by
    have := hsub (j - i) i (by omega)
    rw [show i + (j - i) = j by omega] at this
    exact hlen_of _ _ this
  have htl1 : ∀ j, j < m → ∃ o x, ops[j]? = some o ∧ (st (j + 1)).tmps = putT (st j).tmps o.dst x := by
    intro j hj
    obtain ⟨o, ho⟩ := hop j hj
    rcases hstep' j o hj ho with ⟨_, h⟩ | ⟨_, h⟩
    · rcases h with ⟨x, nb, _, h⟩ | ⟨c, g, args, args', r, _, _, _, _, h⟩
      · exact ⟨o, x, ho, by rw [h]⟩
      · exact ⟨o, r, ho, by rw [h]⟩
    · exact ⟨o, _, ho, by rw [h]⟩
  have htlen : ∀ k j, j + k ≤ m → (st (j + k)).tmps.length = (st j).tmps.length := by
    intro k
    induction k with
    | zero => intro j _; rfl
    | succ k ih =>
      intro j hj
      obtain ⟨o, x, _, h⟩ := htl1 (j + k) (by omega)
      rw [← Nat.add_assoc, h, putT_length, ih j (by omega)]
  have htlenm : ∀ j, j ≤ m → (st m).tmps.length = (st j).tmps.length := fun j hj => by have := htlen (m - j) j (by omega); rwa [show j + (m - j) = m by omega] at this
  have hsame : ∀ k j t, j + k ≤ m → (∀ i, j ≤ i → i < j + k → dstOf ops i ≠ some t) → (st (j + k)).tmps.getD t .top = (st j).tmps.getD t .top := by
    intro k
    induction k with
    | zero => intro j t _ _; rfl
    | succ k ih =>
      intro j t hj hno
      obtain ⟨o, x, ho, h⟩ := htl1 (j + k) (by omega)
      have hne : o.dst ≠ some t := by
        have := hno (j + k) (by omega) (by omega)
        simpa [dstOf, ho] using this
      rw [← Nat.add_assoc, h, putT_getD_ne hne]
      exact ih j t (by omega) fun i hi hi' => hno i hi (by omega)
  have hsamem : ∀ j t, j ≤ m → (∀ i, j ≤ i → i < m → dstOf ops i ≠ some t) → (st m).tmps.getD t .top = (st j).tmps.getD t .top := fun j t hj hno => by
    have := hsame (m - j) j t (by omega) (fun i hi hi' => hno i hi (by omega))
    rwa [show j + (m - j) = m by omega] at this
  refine wp_region_any hmx ?_
  have hszr : (Array.replicate ops.size false).size = ops.size := by simp
  have hlater : ∀ i o, i < m → ops[i]? = some o → isFloat ops m i = true → ∃ x, fop P (st m).eval [] 0 o.op = some (x, none) ∧ ∀ d, o.dst = some d → d < (st m).tmps.length → (st m).tmps.getD d .top = x := by
    intro i o him ho hfl
    obtain ⟨o', ho', hf1, hg1, _⟩ := isFloat_spec hfl
    rw [ho] at ho'; simp only [Option.some.injEq] at ho'; subst ho'
    obtain ⟨hE1, hE2, _⟩ := regOk_spec hok ho
    obtain ⟨hsingle, hlook⟩ := hE2 him
    rcases hstep' i o him ho with ⟨_, h⟩ | ⟨hw, _⟩
    · rcases h with ⟨x, nb, hf, h⟩ | ⟨c, g, args, args', r, hc, _⟩
      · refine ⟨x, (fop_float hf1 (eval_congr (ops := ops) fun t ht => hsamem i t (by omega) fun i' hi hi' he => ?_) hf).2, fun d hd hlt => ?_⟩
        · have := hE1 i' (hlook t ht i' hi' he); omega
        · rw [hsamem (i + 1) d (by omega) (fun i' hi hi' he => by have := hsingle d hd i' hi' he; omega), h, hd]
          exact putT_getD_eq (by rw [← htlenm i (by omega)]; exact hlt)
      · rw [hc] at hf1; simp [floatOp] at hf1
    · simp [awanted, hg1] at hw
  -- the phase of the first m
  have phase : ∀ (fuel : Nat) (listed : Array Bool) (w : World) (A : Nat → Prop) (M : Nat → Option MB) (a : Act), listed.size = ops.size → unl ops.size listed ≤ fuel → (∀ i, m ≤ i → i < ops.size → listed.getD i false = false) →
      (∀ j o, ops[j]? = some o → listed.getD j false = true → ∀ e, e ∈ edges o → listed.getD e false = true) → DInv ops m st w0 A0 listed w A M a → wpAny P .any ops Q fuel listed a w := by
    intro fuel
    have go : ∀ (fuel : Nat) (listed : Array Bool) (w : World) (A : Nat → Prop) (M : Nat → Option MB) (a : Act), listed.size = ops.size → unl ops.size listed ≤ fuel → (∀ i, m ≤ i → i < ops.size → listed.getD i false = false) →
        (∀ j o, ops[j]? = some o → listed.getD j false = true → ∀ e, e ∈ edges o → listed.getD e false = true) → DInv ops m st w0 A0 listed w A M a → (∀ i, i < m → (listed.getD i false || isFloat ops m i) = true) → wpAny P .any ops Q fuel listed a w := by
      intro fuel listed w A M a hsz hf hrest hcl hd hall
      have hfl : ∀ i, i < m → listed.getD i false = false → isFloat ops m i = true := fun i hi hl => by have := hall i hi; rw [hl] at this; simpa using this
      refine tail_sound hIo hI hok hQ fuel m listed s1 w A M a (Nat.le_refl _) hmn hsz (fun i h1 h2 => by omega) hrest hfl hcl hf hT ?_
      rw [← hstm]
      exact ⟨hd.base, hd.outer, hd.size, hd.tmps, hd.heap, hd.defers, hd.ev, fun i o g1 g2 g3 => hlater i o g1 g2 (hfl i g1 g3)⟩
    induction fuel with
    | zero =>
      intro listed w A M a hsz hf hrest hcl hd
      refine go 0 listed w A M a hsz hf hrest hcl hd fun i hi => ?_
      cases hl : listed.getD i false with
      | true => rfl
      | false =>
        have : 0 < unl ops.size listed := List.countP_pos_iff.2 ⟨i, List.mem_range.2 (by omega), by simp only [hl]; rfl⟩
        omega
    | succ fuel ih =>
      intro listed w A M a hsz hf hrest hcl hd
      rcases exists_first (n := m) (p := fun i => listed.getD i false || isFloat ops m i) 0 (Nat.zero_le _) (fun i hi => by omega) with hall | ⟨jf, hjf, hnf, _⟩
      · exact go (fuel + 1) listed w A M a hsz hf hrest hcl hd hall
      simp only [Bool.or_eq_false_iff] at hnf
      rcases exists_first (n := m) (p := fun i => listed.getD i false) 0 (Nat.zero_le _) (fun i hi => by omega) with hall | ⟨j0, hj0, hn0, hbef⟩
      · have := hall jf hjf; rw [hnf.1] at this; simp at this
      have hrdy := ready_first hok hsz (show j0 < ops.size by omega) hn0 hbef
      refine ⟨fun h => by rw [h] at hrdy; simp at hrdy, fun j hj => ?_⟩
      obtain ⟨hu, o, ho, hall⟩ := mem_ready.1 hj
      have hjs : j < ops.size := by
        rcases Nat.lt_or_ge j ops.size with h' | h'
        · exact h'
        · rw [Array.getElem?_eq_none h'] at ho; simp at ho
      have hjl : j < listed.size := by omega
      have hun : listed.getD j false = false := by simpa [hjl] using hu
      obtain ⟨hE1, hE2, hE3⟩ := regOk_spec hok ho
      have hedge : ∀ i, i ∈ edges o → listed.getD i false = true := by
        intro i hi
        obtain ⟨e, he, hek⟩ := List.mem_map.1 hi
        obtain ⟨he1, he2⟩ := List.mem_filter.1 he
        have := hall e (Array.mem_toList_iff.1 he1) he2
        rwa [hek] at this
      have hjm : j < m := by
        rcases Nat.lt_or_ge j m with h' | h'
        · exact h'
        · rcases hE3 h' jf (by omega) with h | ⟨_, h⟩
          · have : listed.getD jf false = true := mask_in (L := fun i => listed.getD i false = true) hcl j o ho hedge jf h
            rw [hnf.1] at this; simp at this
          · rw [hnf.2] at h; simp at h
      obtain ⟨hsingle, hlook⟩ := hE2 hjm
      -- what the operation looks at
      have hseen : ∀ t, t ∈ o.looksAt ops → t < (st m).tmps.length → Rel w A M (a.tmps.getD t undef) ((st j).tmps.getD t .top) := by
        intro t ht htl
        have h1 := hd.tmps t htl fun i hi he => hedge i (hlook t ht i hi he)
        rwa [hsamem j t (by omega) (fun i hi hi' he => by have := hE1 i (hlook t ht i hi' he); omega)] at h1
      have hwsz : a.tmps.size = (st j).tmps.length := by rw [hd.size, htlenm j (by omega)]
      have hlist' : ∀ i, (listed.setIfInBounds j true).getD i false = true ↔ (i = j ∨ listed.getD i false = true) := by
        intro i
        by_cases hij : j = i
        · subst hij; simp [hjl]
        · have : ¬ i = j := fun e => hij e.symm
          simp [Array.getElem?_setIfInBounds_ne hij, this]
      have hfuel' : unl ops.size (listed.setIfInBounds j true) ≤ fuel := by
        have := unl_set hsz hjs hun
        omega
      have hcl' : ∀ j' o', ops[j']? = some o' → (listed.setIfInBounds j true).getD j' false = true → ∀ e, e ∈ edges o' → (listed.setIfInBounds j true).getD e false = true := by
        intro j' o' ho' hl e he
        rcases (hlist' j').1 hl with rfl | hl
        · rw [ho] at ho'; simp only [Option.some.injEq] at ho'; subst ho'
          exact (hlist' e).2 (.inr (hedge e he))
        · exact (hlist' e).2 (.inr (hcl j' o' ho' hl e he))
      have hrest' : ∀ i, m ≤ i → i < ops.size → (listed.setIfInBounds j true).getD i false = false := by
        intro i h1 h2
        have hij : j ≠ i := by omega
        have := hrest i h1 h2
        simpa [Array.getElem?_setIfInBounds_ne hij] using this
      -- the temporaries behind it
      have htm : ∀ (x : AV) (v : Value) (w' : World) (A' : Nat → Prop) (M' : Nat → Option MB), (st (j + 1)).tmps = putT (st j).tmps o.dst x → Rel w' A' M' v x → (∀ t, t < (st m).tmps.length → (∀ i, i < m → dstOf ops i = some t → listed.getD i false = true) → Rel w' A' M' (a.tmps.getD t undef) ((st m).tmps.getD t .top)) →
          ∀ t, t < (st m).tmps.length → (∀ i, i < m → dstOf ops i = some t → (listed.setIfInBounds j true).getD i false = true) → Rel w' A' M' ((a.put o.dst v).tmps.getD t undef) ((st m).tmps.getD t .top) := by
        intro x v w' A' M' hx hv hold t htl hw
        by_cases hdt : o.dst = some t
        · have e1 : (a.put o.dst v).tmps.getD t undef = v := by
            have : t < a.tmps.size := by rw [hd.size]; exact htl
            simp [Act.put, hdt, this]
          have e2 : (st m).tmps.getD t .top = x := by
            rw [hsamem (j + 1) t (by omega) (fun i hi hi' he => by have := hsingle t hdt i hi' he; omega), hx, hdt]
            exact putT_getD_eq (by rw [← htlenm j (by omega)]; exact htl)
          rw [e1, e2]; exact hv
        · have e1 : (a.put o.dst v).tmps.getD t undef = a.tmps.getD t undef := by
            cases hdd : o.dst with
            | none => rfl
            | some d =>
              have hne : d ≠ t := fun e => hdt (by rw [hdd, e])
              simp [Act.put, Array.getElem?_setIfInBounds_ne hne]
          rw [e1]
          refine hold t htl fun i hi he => ?_
          rcases (hlist' i).1 (hw i hi he) with rfl | h
          · exact absurd (by simpa [dstOf, ho] using he) hdt
          · exact h
      unfold wpOp
      simp only [ho]
      rcases hstep' j o hjm ho with ⟨hw, h⟩ | ⟨hw, h⟩
      · have hwt := wanted_of (w := w) (A := A) (M := M) hwsz (fun jg want d hg hdd hlt => hseen d (looks_guard hg hdd) (by rw [htlenm j (by omega)]; exact hlt)) hw
        rw [if_pos hwt]
        left
        obtain ⟨x, hx, hwp⟩ := opF_core (w := w) (A := A) (M := M) (B := w0.heap.size) (a := a) (K := wpAny P .any ops Q fuel (listed.setIfInBounds j true)) (Q := Q) h (hsubm (j + 1) (by omega)) hd.heap hd.base.size (hIo.below _ _ hI hd.base)
          (fun y hy => by
            cases y with
            | tmp t =>
              by_cases htl : t < (st m).tmps.length
              · exact hseen t (looks_operand hy) htl
              · have : (st j).eval (.tmp t) = .top := by
                  simp only [St.eval, List.getD_eq_getElem?_getD]
                  rw [List.getElem?_eq_none (by rw [← htlenm j (by omega)]; exact Nat.le_of_not_lt htl)]; rfl
                rw [this]; exact .top _
            | const v => exact rel_avOf w A M v
            | global g => exact .gptr g
            | func f => exact .func f #[] [] rfl (by simp))
          (fun hgrow => by
            cases hmn' : M (st j).heap.length with
            | none => rfl
            | some mm =>
              exfalso
              rcases hd.ids _ mm hmn' with h1 | ⟨i, him, hil, he, hg⟩
              · have := hlen 0 j (Nat.zero_le _) (by omega); omega
              · rcases Nat.lt_trichotomy i j with hlt | heq | hgt
                · have := hlen (i + 1) j (by omega) (by omega); omega
                · subst heq; rw [hun] at hil; simp at hil
                · have := hlen (j + 1) i (by omega) (by omega); omega)
        refine hwp fun v w' A' M' hbel hext hA hM ht hR' hr => ih (listed.setIfInBounds j true) w' A' M' (a.put o.dst v) (by simp [hsz]) hfuel' hrest' hcl' ?_
        refine ⟨hd.base.trans (hbel.mono hd.base.size), fun b hb => (hA b (Nat.lt_of_lt_of_le hb hd.base.size)).trans (hd.outer b hb), ?_, ?_, hR', hd.ev.step ⟨hbel.size, fun b hb _ => hbel.block b hb, fun b hb h => (hA b hb).1 h, fun b hb h _ => (hA b hb).2 h, hext, ht⟩, fun id mm hmm => ?_, by rw [put_defers]; exact hd.defers⟩
        · cases hdd : o.dst with
          | none => exact hd.size
          | some d => simp [Act.put, hd.size]
        · exact htm x v w' A' M' hx hr fun t htl hw' => (hd.tmps t htl hw').mono (fun b hb _ => hbel.block b hb) hbel.size (fun b hb hA' => (hA b hb).1 hA') hext
        · rcases hM id mm hmm with ⟨m0, hm0⟩ | ⟨he, hg⟩
          · rcases hd.ids id m0 hm0 with h1 | ⟨i, him, hil, he, hg⟩
            · exact .inl h1
            · exact .inr ⟨i, him, (hlist' i).2 (.inr hil), he, hg⟩
          · exact .inr ⟨j, hjm, (hlist' j).2 (.inl rfl), he, hg⟩
      · have hwt := wanted_of (w := w) (A := A) (M := M) hwsz (fun jg want d hg hdd hlt => hseen d (looks_guard hg hdd) (by rw [htlenm j (by omega)]; exact hlt)) hw
        rw [if_neg (by rw [hwt]; simp)]
        refine ih (listed.setIfInBounds j true) w A M (a.put o.dst undef) (by simp [hsz]) hfuel' hrest' hcl' ?_
        refine ⟨hd.base, hd.outer, ?_, ?_, hd.heap, hd.ev, fun id mm hmm => ?_, by rw [put_defers]; exact hd.defers⟩
        · cases hdd : o.dst with
          | none => exact hd.size
          | some d => simp [Act.put, hd.size]
        · exact htm (.tuple []) undef w A M (by rw [h]) (.tuple #[] [] rfl (by simp)) hd.tmps
        · rcases hd.ids id mm hmm with h1 | ⟨i, him, hil, he, hg⟩
          · exact .inl h1
          · exact .inr ⟨i, him, (hlist' i).2 (.inr hil), he, hg⟩
  -- the beginning
  obtain ⟨A1, hs1, hmv1⟩ := hs.refreeze (by rw [← hst0]; exact hsubm 0 (Nat.zero_le _) : HSub s.heap (st m).heap)
  have hlis : ∀ i, (Array.replicate ops.size false).getD i false = false := by
    intro i
    by_cases hi : i < ops.size <;> simp [hi]
  have hunl : unl ops.size (Array.replicate ops.size false) ≤ ops.size := by
    have := List.countP_le_length (l := List.range ops.size) (p := fun i => !(Array.replicate ops.size false).getD i false)
    simpa [unl] using this
  refine phase ops.size (Array.replicate ops.size false) _ A1 M a hszr hunl (fun i _ _ => hlis i) (fun j o _ hl => by rw [hlis j] at hl; simp at hl) ?_
  have hdrew : Below w.heap.size w { w with drawn := w.drawn + 1 } := ⟨rfl, rfl, rfl, Nat.le_refl _, fun _ _ => rfl⟩
  refine ⟨hs.base.trans ⟨rfl, rfl, rfl, Nat.le_refl _, fun _ _ => rfl⟩, hs1.outer, by rw [htlenm 0 (Nat.zero_le _), hst0]; exact hs.size, fun t htl hw => ?_, hs1.heap.grow hdrew, hs1.ev.step ⟨Nat.le_refl _, fun _ _ _ => rfl, fun _ _ h => h, fun _ _ h _ => h, MExt.refl M, .of_new hdrew fun _ _ h => .inl h⟩, fun id mm hmm => ?_, hs.defers⟩
  · have hno : ∀ i, i < m → dstOf ops i ≠ some t := fun i hi he => by have := hw i hi he; rw [hlis i] at this; simp at this
    rw [hsamem 0 t (Nat.zero_le _) (fun i _ hi => hno i hi), hst0]
    rw [htlenm 0 (Nat.zero_le _), hst0] at htl
    exact (hs1.tmps t htl).grow hdrew
  · left
    rw [hst0]
    rcases Nat.lt_or_ge id s.heap.length with h' | h'
    · exact h'
    · rw [hs.heap.none_of_length h'] at hmm; simp at hmm

end
end Go.Sim
/- Code: what a body does from an abstract state; contracts of functions out of their bodies. -/
set_option linter.unusedVariables false
set_option linter.unusedSimpArgs false
set_option linter.unnecessarySimpa false
namespace Go.Sim
open Go.RowKit

/-! ### Boxes numbered anew -/

/-- The boxes that a value names. -/
def refsOf : AV → List Nat
  | .agg cs => refsL cs
  | .func _ cs => refsL cs
  | .tuple cs => refsL cs
  | .own id _ _ _ => [id]
  | .osl id _ _ _ => [id]
  | _ => []
where refsL : List AV → List Nat
  | [] => []
  | x :: xs => refsOf x ++ refsL xs

/-- The boxes that are reached, each once. -/
def gather (H : List Box) : Nat → List Nat → List Nat → List Nat
  | 0, _, acc => acc
  | _, [], acc => acc
  | n + 1, id :: todo, acc => match posOf acc id with
    | some _ => gather H n todo acc
    | none => match H[id]? with
      | some bx => match bx.pm with
        | true => gather H n todo (acc ++ [id])
        | false => gather H n (todo ++ refsOf.refsL bx.xs) (acc ++ [id])
      | none => gather H n todo acc

/-- The first 'pin' boxes keep their numbers and their age, the others are as if new. -/
def normF (pin : Nat) (ids : List Nat) (H : List Box) (id ver : Nat) : Option (Nat × Nat) := match posOf ids id with
  | none => none
  | some j => match Nat.blt j pin with
    | true => some (j, ver)
    | false => match H[id]? with
      | none => none
      | some bx => match Nat.beq bx.ver ver with
        | true => some (j, 0)
        | false => none

def normH (pin : Nat) (f : Nat → Nat → Option (Nat × Nat)) (H : List Box) : Nat → List Nat → Option (List Box)
  | _, [] => some []
  | j, id :: ids => match H[id]? with
    | some bx => match renBoxOk f bx with
      | true => match normH pin f H (j + 1) ids with
        | some bs => some (renBox f (match Nat.blt j pin with | true => bx.ver | false => 0) bx :: bs)
        | none => none
      | false => none
    | none => none

def pinsOk : Nat → Nat → List Nat → Bool
  | 0, _, _ => true
  | _ + 1, _, [] => false
  | n + 1, j, id :: ids => Nat.beq id j && pinsOk n (j + 1) ids

theorem pinsOk_spec : ∀ {n j : Nat} {ids : List Nat}, pinsOk n j ids = true → ∀ k, k < n → ids[k]? = some (j + k)
  | 0, _, _, _, k, hk => by omega
  | n + 1, j, [], h, _, _ => by simp [pinsOk] at h
  | n + 1, j, id :: ids, h, k, hk => by
    simp only [pinsOk, Bool.and_eq_true] at h
    cases k with
    | zero => simpa using Nat.eq_of_beq_eq_true h.1
    | succ k =>
      have := pinsOk_spec h.2 k (by omega)
      rw [List.getElem?_cons_succ, this]; congr 1; omega

theorem normH_spec {pin : Nat} {f : Nat → Nat → Option (Nat × Nat)} {H : List Box} : ∀ {ids : List Nat} {j0 : Nat} {H' : List Box}, normH pin f H j0 ids = some H' → H'.length = ids.length ∧ ∀ (j id : Nat), ids[j]? = some id → ∃ bx : Box, H[id]? = some bx ∧ H'[j]? = some (renBox f (match Nat.blt (j0 + j) pin with | true => bx.ver | false => 0) bx) ∧ renBoxOk f bx = true
  | [], j0, H', h => by simp only [normH, Option.some.injEq] at h; subst h; simp
  | a :: ids, j0, H', h => by
    unfold normH at h
    split at h
    case h_2 => simp at h
    rename_i bx hb
    split at h
    case h_2 => simp at h
    rename_i hok
    split at h
    case h_2 => simp at h
    rename_i bs hbs
    simp only [Option.some.injEq] at h; subst h
    obtain ⟨h1, h2⟩ := normH_spec hbs
    refine ⟨by simp [h1], fun j id hj => ?_⟩
    cases j with
    | zero =>
      simp only [List.getElem?_cons_zero, Option.some.injEq] at hj
      subst hj
      exact ⟨bx, hb, rfl, hok⟩
    | succ j =>
      obtain ⟨bx', e1, e2, e3⟩ := h2 j id (by simpa using hj)
      exact ⟨bx', e1, by rw [show j0 + (j + 1) = j0 + 1 + j by omega]; simpa using e2, e3⟩

theorem blt_true {a b : Nat} (h : Nat.blt a b = true) : a < b := Nat.le_of_ble_eq_true h
theorem blt_false {a b : Nat} (h : Nat.blt a b = false) : ¬ a < b := fun h' => by
  have : Nat.ble (a + 1) b = true := Nat.ble_eq_true_of_le h'
  simp only [Nat.blt] at h
  rw [this] at h; simp at h

/-- How a box's age turns. -/
def ageOf (pin j : Nat) (m : MB) : MB := match Nat.blt j pin with
  | true => m
  | false => { m with ver := 0 }

theorem HR.norm {w : World} {A : Nat → Prop} {M : Nat → Option MB} {B : Nat} {H H' : List Box} (hR : HR w A M B H) {pin : Nat} {ids : List Nat} (hnd : nodupB ids = true) (hpin : pinsOk pin 0 ids = true) (hH : normH pin (normF pin ids H) H 0 ids = some H') :
    ∃ M', HR w A M' B H' ∧ RenTo (normF pin ids H) M M' ∧ (∀ id m, id < pin → M id = some m → M' id = some m) ∧ ∀ k m', M' k = some m' → ∃ id m, M id = some m ∧ m'.b = m.b ∧ m'.cap = m.cap := by
  obtain ⟨hl, hsp⟩ := normH_spec hH
  let M' : Nat → Option MB := fun j => (ids[j]?).bind fun id => (M id).map (ageOf pin j)
  have hM's : ∀ j m', M' j = some m' → ∃ id m, ids[j]? = some id ∧ M id = some m ∧ m' = ageOf pin j m := fun j m' h => by
    simp only [M'] at h
    cases hj : ids[j]? with
    | none => rw [hj] at h; simp at h
    | some id =>
      rw [hj] at h
      simp only [Option.bind_some, Option.map_eq_some_iff] at h
      obtain ⟨m, h1, h2⟩ := h
      exact ⟨id, m, rfl, h1, h2.symm⟩
  have hM'of : ∀ j id m, ids[j]? = some id → M id = some m → M' j = some (ageOf pin j m) := fun j id m hj hm => by simp [M', hj, hm]
  have hage : ∀ j m, (ageOf pin j m).b = m.b ∧ (ageOf pin j m).sz = m.sz ∧ (ageOf pin j m).cap = m.cap ∧ (ageOf pin j m).ty = m.ty := fun j m => by unfold ageOf; split <;> exact ⟨rfl, rfl, rfl, rfl⟩
  have hto : RenTo (normF pin ids H) M M' := fun id ver k v m hf hm hv => by
    unfold normF at hf
    split at hf
    · simp at hf
    rename_i j hj
    have hij := posOf_some hj
    split at hf
    · rename_i hb
      simp only [Option.some.injEq, Prod.mk.injEq] at hf
      obtain ⟨rfl, rfl⟩ := hf
      have : ageOf pin j m = m := by simp [ageOf, hb]
      exact ⟨m, by rw [hM'of j id m hij hm, this], hv, rfl, rfl, rfl, fun e => e⟩
    · rename_i hb
      split at hf
      · simp at hf
      rename_i bx hbx
      split at hf
      case h_2 => simp at hf
      rename_i hver
      simp only [Option.some.injEq, Prod.mk.injEq] at hf
      obtain ⟨rfl, rfl⟩ := hf
      obtain ⟨bx', g1, g2⟩ := hR.box id m hm
      rw [hbx] at g1
      simp only [Option.some.injEq] at g1
      subst g1
      obtain ⟨a1, a2, a3, a4⟩ := hage j m
      exact ⟨_, hM'of j id m hij hm, Nat.zero_le _, a1, a2, a3, fun _ => by rw [← Nat.eq_of_beq_eq_true hver, g2.ver]⟩
  refine ⟨M', ⟨fun j m' hm' => ?_, fun j j' m1 m2 h1 h2 c1 c2 he => ?_, hR.lt⟩, hto, fun id m hid hm => ?_, fun k m' hm' => ?_⟩
  · obtain ⟨id, m, hj, hm, rfl⟩ := hM's j m' hm'
    obtain ⟨bx, g1, g2, g3⟩ := hsp j id hj
    obtain ⟨bx', g4, g5⟩ := hR.box id m hm
    rw [g1] at g4
    simp only [Option.some.injEq] at g4
    subst g4
    obtain ⟨a1, a2, a3, a4⟩ := hage j m
    refine ⟨_, g2, g5.ren g3 hto a1 ?_ a2 a3 a4⟩
    rw [Nat.zero_add]
    unfold ageOf
    split
    · exact g5.ver.symm
    · rfl
  · obtain ⟨i1, n1, e1, e2, rfl⟩ := hM's j m1 h1
    obtain ⟨i2, n2, e3, e4, rfl⟩ := hM's j' m2 h2
    obtain ⟨a1, _, a3, _⟩ := hage j n1
    obtain ⟨b1, _, b3, _⟩ := hage j' n2
    rw [a3] at c1; rw [b3] at c2
    have := hR.inj i1 i2 n1 n2 e2 e4 c1 c2 (by rw [← a1, ← b1, he])
    subst this
    have p1 := posOf_get hnd e1
    have p2 := posOf_get hnd e3
    rw [p1] at p2
    simpa using p2
  · have := pinsOk_spec hpin id hid
    rw [Nat.zero_add] at this
    rw [hM'of id id m this hm]
    have hb : Nat.blt id pin = true := Nat.ble_eq_true_of_le hid
    simp [ageOf, hb]
  · obtain ⟨id, m, hj, hm, rfl⟩ := hM's k m' hm'
    obtain ⟨a1, _, a3, _⟩ := hage k m
    exact ⟨id, m, hm, a1, a3⟩

theorem Ev.norm {C : Cx} {w : World} {A : Nat → Prop} {M M' : Nat → Option MB} (h : Ev C w A M) {pin : Nat} (hp : C.pin ≤ pin) (h1 : ∀ id m, id < pin → M id = some m → M' id = some m) (h2 : ∀ k m', M' k = some m' → ∃ id m, M id = some m ∧ m'.b = m.b ∧ m'.cap = m.cap) : Ev C w A M' := by
  refine ⟨h.size, h.keep, h.less, h.more, fun id m hid hm => ?_, fun id m' hm' h0 => ?_⟩
  · obtain ⟨m', g1, g2⟩ := h.ids id m hid hm
    exact ⟨m', h1 id m' (by omega) g1, g2⟩
  · obtain ⟨i, m, g1, g2, g3⟩ := h2 id m' hm'
    rw [g3] at h0
    rw [g2]
    exact h.src i m g1 h0

/-- Temporaries of which those named alone are known. -/
def mkTs (n : Nat) : List (Nat × AV) → List AV
  | [] => List.replicate n .top
  | (t, v) :: l => (mkTs n l).set t v

def liveOf (live : List Nat) (ts : List AV) : List AV := live.map fun t => ts.getD t .top

theorem mkTs_length (n : Nat) : ∀ l : List (Nat × AV), (mkTs n l).length = n
  | [] => by simp [mkTs]
  | (t, v) :: l => by simp [mkTs, mkTs_length n l]

theorem mkTs_getD (n : Nat) (ts : List AV) (hn : ts.length = n) (t : Nat) : ∀ live : List Nat, (mkTs n (live.zip (liveOf live ts))).getD t .top = ts.getD t .top ∨ (mkTs n (live.zip (liveOf live ts))).getD t .top = .top
  | [] => by
    right
    simp only [List.zip_nil_left, mkTs, List.getD_eq_getElem?_getD, List.getElem?_replicate]
    split <;> rfl
  | a :: live => by
    simp only [liveOf, List.map_cons, List.zip_cons_cons, mkTs]
    have ih := mkTs_getD n ts hn t live
    simp only [liveOf] at ih
    by_cases ha : a = t
    · subst ha
      by_cases hlt : a < n
      · left
        exact getD_set_eq (by rw [mkTs_length]; exact hlt)
      · right
        exact getD_ge (by rw [List.length_set, mkTs_length]; omega)
    · rw [getD_set_ne ha]; exact ih

/-- nil as a slice of a box of its own: nothing stands in it. -/
def convs : List (Nat × Nat × TypeId) → List AV → List Box → List AV × List Box
  | [], ts, H => (ts, H)
  | (t, sz, ty) :: cs, ts, H => match ts.getD t .top with
    | .nils => convs cs (ts.set t (.osl H.length 0 0 0)) (H ++ [⟨0, sz, ty, [], false, true⟩])
    | _ => convs cs ts H

/-- What is known of the temporaries named, and the boxes that they reach, numbered anew. -/
def normS (pin : Nat) (conv : List (Nat × Nat × TypeId)) (live : List Nat) (s : St) : Option (List AV × List Box) :=
  let c := convs conv s.tmps s.heap
  let ids := gather c.2 1000 (List.range pin ++ refsOf.refsL (liveOf live c.1)) []
  match nodupB ids && pinsOk pin 0 ids with
  | true => match normH pin (normF pin ids c.2) c.2 0 ids with
    | some H' => some (rens (normF pin ids c.2) (liveOf live c.1), H')
    | none => none
  | false => none

theorem liveOf_rens (f : Nat → Nat → Option (Nat × Nat)) (ts : List AV) : ∀ live : List Nat, rens f (liveOf live ts) = liveOf live (rens f ts)
  | [] => rfl
  | t :: live => by
    have := liveOf_rens f ts live
    simp only [liveOf] at this
    simp only [liveOf, List.map_cons, rens, rens_getD, this]

theorem SR.conv1 {w0 w : World} {A0 : Cx} {A : Nat → Prop} {M : Nat → Option MB} {ts : List AV} {H : List Box} {a : Act} (h : SR w0 A0 w A M ⟨ts, H⟩ a) {t sz : Nat} {ty : TypeId} (ht : ts.getD t .top = .nils) :
    ∃ M', SR w0 A0 w A M' ⟨ts.set t (.osl H.length 0 0 0), H ++ [⟨0, sz, ty, [], false, true⟩]⟩ a := by
  obtain ⟨g1, g2, g3⟩ := h.heap.virt sz ty true
  refine ⟨_, h.base, h.outer, by simp [h.size], fun t' ht' => ?_, g1, h.defers, h.ev.step g2⟩
  simp only [List.length_set] at ht'
  have h1 := g2.rel (h.tmps t' ht')
  by_cases hd : t = t'
  · subst hd
    simp only [getD_set_eq ht']
    rw [ht] at h1
    generalize a.tmps.getD t undef = v at h1
    cases h1
    exact g3 none
  · simp only [getD_set_ne hd]; exact h1

theorem SR.convs {w0 w : World} {A0 : Cx} {A : Nat → Prop} {a : Act} : ∀ (cs : List (Nat × Nat × TypeId)) {M : Nat → Option MB} {ts : List AV} {H : List Box}, SR w0 A0 w A M ⟨ts, H⟩ a → ∃ M', SR w0 A0 w A M' ⟨(Sim.convs cs ts H).1, (Sim.convs cs ts H).2⟩ a
  | [], M, _, _, h => ⟨M, h⟩
  | (t, sz, ty) :: cs, M, ts, H, h => by
    unfold Sim.convs
    split
    · rename_i ht
      obtain ⟨M', h'⟩ := h.conv1 (sz := sz) (ty := ty) ht
      exact SR.convs cs h'
    · exact SR.convs cs h

/-- The same state, or less of it, or its boxes under other numbers. -/
def Weak (p : Nat) (s s' : St) : Prop := ∀ (w0 : World) (A0 : Cx) (w : World) (A : Nat → Prop) (M : Nat → Option MB) (a : Act), A0.pin ≤ p → SR w0 A0 w A M s a → ∃ M', SR w0 A0 w A M' s' a

theorem Weak.refl (p : Nat) (s : St) : Weak p s s := fun _ _ _ _ M _ _ h => ⟨M, h⟩

theorem normS_weak {pin : Nat} {conv : List (Nat × Nat × TypeId)} {live : List Nat} {s : St} {vals : List AV} {H' : List Box} (h : normS pin conv live s = some (vals, H')) : Weak pin s ⟨mkTs s.tmps.length (live.zip vals), H'⟩ := by
  intro w0 A0 w A M a hp hs
  obtain ⟨M1, h1⟩ := SR.convs conv hs
  unfold normS at h
  simp only at h
  generalize Sim.convs conv s.tmps s.heap = c at h h1
  generalize gather c.2 1000 (List.range pin ++ refsOf.refsL (liveOf live c.1)) [] = ids at h
  split at h
  case h_2 => simp at h
  rename_i hc
  simp only [Bool.and_eq_true] at hc
  split at h
  case h_2 => simp at h
  rename_i H1 hH
  simp only [Option.some.injEq, Prod.mk.injEq] at h
  obtain ⟨rfl, rfl⟩ := h
  obtain ⟨M2, g1, g2, g3, g4⟩ := h1.heap.norm hc.1 hc.2 hH
  have hlen : c.1.length = s.tmps.length := by rw [← h1.size, hs.size]
  refine ⟨M2, h1.base, h1.outer, by rw [mkTs_length, ← hlen]; exact h1.size, fun t ht => ?_, g1, h1.defers, h1.ev.norm hp g3 g4⟩
  simp only [liveOf_rens]
  rcases mkTs_getD s.tmps.length (rens (normF pin ids c.2) c.1) (by rw [rens_length]; exact hlen) t live with e | e
  · rw [e, rens_getD]
    simp only [mkTs_length] at ht
    exact (h1.tmps t (by simp only []; omega)).ren g2
  · rw [e]; exact .top _

/-! ### What a piece of code does -/

/-- From the abstract state 's' the code comes to one of its exits, with a state of which 'Q' holds. -/
def Does (P : Program) (Inv : IV) (c : Code) (Q : Exit → St → Prop) (s : St) : Prop :=
  ∀ (w0 : World) (A0 : Cx) (w : World) (A : Nat → Prop) (M : Nat → Option MB) (a : Act) (Qc : Exit → Act → World → Prop), Inv w0 → A0.pin ≤ Inv.pin → SR w0 A0 w A M s a → (∀ e s' a' w', Q e s' → SOk w0 A0 s' a' w' → Qc e a' w') → c.wp P Qc a w

section rules
variable {P : Program} {Inv : IV} {Q : Exit → St → Prop} {s : St}

theorem sem_mono {c : Code} {Q' : Exit → St → Prop} (h : Does P Inv c Q s) (hq : ∀ e s, Q e s → Q' e s) : Does P Inv c Q' s :=
  fun w0 A0 w A M a Qc hI hp hs hQ => h w0 A0 w A M a Qc hI hp hs fun e s' a' w' hqs => hQ e s' a' w' (hq e s' hqs)

theorem sem_skip (h : Q .normal s) : Does P Inv .skip Q s := fun w0 A0 w A M a Qc hI hp hs hQ => wp_skip (hQ _ _ _ _ h ⟨A, M, hs⟩)
theorem sem_exit {id : Nat} (h : Q (.exit id) s) : Does P Inv (.exit id) Q s := fun w0 A0 w A M a Qc hI hp hs hQ => wp_exit (hQ _ _ _ _ h ⟨A, M, hs⟩)
theorem sem_ret (h : Q .ret s) : Does P Inv .ret Q s := fun w0 A0 w A M a Qc hI hp hs hQ => wp_ret (hQ _ _ _ _ h ⟨A, M, hs⟩)

def thenQ (next : St → Prop) (Q : Exit → St → Prop) : Exit → St → Prop
  | .normal, s => next s
  | e, s => Q e s

def blockQ (id : Nat) (Q : Exit → St → Prop) : Exit → St → Prop
  | .exit id', s => if id' = id then Q .normal s else Q (.exit id') s
  | e, s => Q e s

theorem sem_seq {x y : Code} (h : Does P Inv x (thenQ (Does P Inv y Q) Q) s) : Does P Inv (.seq x y) Q s := fun w0 A0 w A M a Qc hI hp hs hQ =>
  wp_seq (h w0 A0 w A M a _ hI hp hs fun e s' a' w' hq hok => by
    cases e with
    | normal => obtain ⟨A', M', hs'⟩ := hok; exact hq w0 A0 w' A' M' a' Qc hI hp hs' hQ
    | _ => exact hQ _ _ _ _ hq hok)

theorem sem_block {id : Nat} {c : Code} (h : Does P Inv c (blockQ id Q) s) : Does P Inv (.block id c) Q s := fun w0 A0 w A M a Qc hI hp hs hQ =>
  wp_block (h w0 A0 w A M a _ hI hp hs fun e s' a' w' hq hok => by
    cases e with
    | exit id' =>
      simp only [blockQ] at hq
      simp only [Exit.inBlock]
      split <;> rename_i hid <;> simp only [hid, if_true, if_false] at hq
      · exact hQ _ _ _ _ hq hok
      · exact hQ _ _ _ _ hq hok
    | _ => exact hQ _ _ _ _ hq hok)

theorem sem_cond {c : Operand} {x y : Code} {t : Bool} (hc : s.eval c = .bool t) (ht : t = true → Does P Inv x Q s) (hf : t = false → Does P Inv y Q s) : Does P Inv (.cond c x y) Q s := fun w0 A0 w A M a Qc hI hp hs hQ => by
  have := hs.eval c
  rw [hc] at this
  exact wp_cond_split this.bool_inv (fun h => ht h w0 A0 w A M a Qc hI hp hs hQ) (fun h => hf h w0 A0 w A M a Qc hI hp hs hQ)

theorem sem_region (hIo : InvOk Inv) {id : Nat} {ops : Array Oper} {s' : St} (hp : Path (OpA P Inv) ops ops.toList s s') (h : Q .normal s') : Does P Inv (.region id ops false) Q s := fun w0 A0 w A M a Qc hI _ hs hQ =>
  region_seq hIo hI hp hs fun a' w' hok => hQ _ _ _ _ h hok

theorem sem_draw (hmx : P.follows .mixedOrders = true) (hIo : InvOk Inv) {id : Nat} {ops : Array Oper} {s1 s' : St} (m : Nat) (hok : regOk ops m = true) (hm : m ≤ ops.size) (hF : Path (OpF P Inv) ops (ops.toList.take m) s s1) (hT : TPath P Inv ops m m (ops.toList.drop m) s1 s') (h : Q .normal s') : Does P Inv (.region id ops true) Q s := fun w0 A0 w A M a Qc hI _ hs hQ =>
  region_draw hmx hIo hI hok hm hF hT hs fun a' w' hok => hQ _ _ _ _ h hok

/-- From the abstract state 's', at a round's head, the loop comes to its end. -/
def DoesL (P : Program) (Inv : IV) (c : Code) (Q : Exit → St → Prop) (s : St) : Prop :=
  ∀ (w0 : World) (A0 : Cx) (w : World) (A : Nat → Prop) (M : Nat → Option MB) (a : Act) (Qc : Exit → Act → World → Prop), Inv w0 → A0.pin ≤ Inv.pin → SR w0 A0 w A M s a → (∀ e s' a' w', Q e s' → SOk w0 A0 s' a' w' → Qc e a' w') →
    ∀ (b : Frame) (k : List Item) (cs : List Frame), ∃ e a' w', Qc e a' w' ∧ Arrives P (lone (b.at a (.code c :: .inLoop c :: k)) cs w) b k cs e a' w'

theorem semL_mono {c : Code} {Q' : Exit → St → Prop} (h : DoesL P Inv c Q s) (hq : ∀ e s, Q e s → Q' e s) : DoesL P Inv c Q' s :=
  fun w0 A0 w A M a Qc hI hp hs hQ => h w0 A0 w A M a Qc hI hp hs fun e s' a' w' hqs => hQ e s' a' w' (hq e s' hqs)

theorem sem_ofL {c : Code} (h : DoesL P Inv c Q s) : Does P Inv (.loop c) Q s := fun w0 A0 w A M a Qc hI hp hs hQ => by
  intro b k cs
  obtain ⟨e, a', w', hq, harr⟩ := h w0 A0 w A M a Qc hI hp hs hQ b k cs
  exact ⟨e, a', w', hq, .of_steps (.one step_loop) harr⟩

/-- One round ahead. -/
theorem semL_round {c : Code} (h : Does P Inv c (thenQ (DoesL P Inv c Q) Q) s) : DoesL P Inv c Q s := fun w0 A0 w A M a Qc hI hp hs hQ => by
  intro b k cs
  obtain ⟨e, a₁, w₁, hq, harr⟩ := h w0 A0 w A M a (fun e a' w' => match e with | .normal => ∃ s', DoesL P Inv c Q s' ∧ SOk w0 A0 s' a' w' | e => Qc e a' w') hI hp hs (fun e s' a' w' hq hok => by
    cases e with
    | normal => exact ⟨s', hq, hok⟩
    | _ => exact hQ _ _ _ _ hq hok) b (.inLoop c :: k) cs
  cases e with
  | normal =>
    obtain ⟨s', k1, A', M', hs'⟩ := hq
    obtain ⟨e₂, a₂, w₂, hq₂, harr₂⟩ := k1 w0 A0 w₁ A' M' a₁ Qc hI hp hs' hQ b k cs
    exact ⟨e₂, a₂, w₂, hq₂, .of_steps (Steps.trans harr (.one step_inLoop)) harr₂⟩
  | exit id => exact ⟨_, a₁, w₁, hq, .pass (x := .inLoop c) rfl (fun _ _ => .inl (by simp)) harr⟩
  | goto l => exact ⟨_, a₁, w₁, hq, .pass (x := .inLoop c) rfl (fun _ _ => .inl (by simp)) harr⟩
  | ret => exact ⟨_, a₁, w₁, hq, .pass (x := .inLoop c) rfl (fun _ _ => .inl (by simp)) harr⟩
  | panic ch => exact ⟨_, a₁, w₁, hq, .pass (x := .inLoop c) rfl (fun _ _ => .inl (by simp)) harr⟩
  | outgrown => exact ⟨_, a₁, w₁, hq, .pass (x := .inLoop c) rfl (fun _ _ => .inl (by simp)) harr⟩

/-- A loop: 'I n' holds at a round's head from which fewer than 'n' rounds follow. -/
theorem sem_headN {c : Code} (I : Nat → St → Prop) {n0 : Nat} {s0 : St} (hw : Weak Inv.pin s s0) (h1 : I n0 s0)
    (round : ∀ n s, I n s → Does P Inv c (thenQ (fun s' => ∃ n' s'', n' < n ∧ Weak Inv.pin s' s'' ∧ I n' s'') Q) s) : DoesL P Inv c Q s := fun w0 A0 w A M a Qc hI hp hs hQ => by
  intro b k cs
  have key : ∀ n s, I n s → ∀ w A M a, SR w0 A0 w A M s a → ∃ e a' w', Qc e a' w' ∧ Arrives P (lone (b.at a (.code c :: .inLoop c :: k)) cs w) b k cs e a' w' := by
    intro n
    induction n using Nat.strongRecOn with
    | _ n ih =>
      intro s hIs w A M a hs
      obtain ⟨e, a₁, w₁, hq, harr⟩ := round n s hIs w0 A0 w A M a (fun e a' w' => match e with | .normal => ∃ n' s'', n' < n ∧ I n' s'' ∧ SOk w0 A0 s'' a' w' | e => Qc e a' w') hI hp hs (fun e s' a' w' hq hok => by
        cases e with
        | normal =>
          obtain ⟨A', M', hs'⟩ := hok
          obtain ⟨n', s'', k1, k2, k3⟩ := hq
          obtain ⟨M'', hs''⟩ := k2 w0 A0 w' A' M' a' hp hs'
          exact ⟨n', s'', k1, k3, A', M'', hs''⟩
        | _ => exact hQ _ _ _ _ hq hok) b (.inLoop c :: k) cs
      cases e with
      | normal =>
        obtain ⟨n', s'', k1, k2, A', M', hs''⟩ := hq
        obtain ⟨e₂, a₂, w₂, hq₂, harr₂⟩ := ih n' k1 s'' k2 w₁ A' M' a₁ hs''
        exact ⟨e₂, a₂, w₂, hq₂, .of_steps (Steps.trans harr (.one step_inLoop)) harr₂⟩
      | exit id => exact ⟨_, a₁, w₁, hq, .pass (x := .inLoop c) rfl (fun _ _ => .inl (by simp)) harr⟩
      | goto l => exact ⟨_, a₁, w₁, hq, .pass (x := .inLoop c) rfl (fun _ _ => .inl (by simp)) harr⟩
      | ret => exact ⟨_, a₁, w₁, hq, .pass (x := .inLoop c) rfl (fun _ _ => .inl (by simp)) harr⟩
      | panic ch => exact ⟨_, a₁, w₁, hq, .pass (x := .inLoop c) rfl (fun _ _ => .inl (by simp)) harr⟩
      | outgrown => exact ⟨_, a₁, w₁, hq, .pass (x := .inLoop c) rfl (fun _ _ => .inl (by simp)) harr⟩
  obtain ⟨M', hs'⟩ := hw w0 A0 w A M a hp hs
  exact key n0 s0 h1 w A M' a hs'

theorem sem_loopN {c : Code} (I : Nat → St → Prop) {n0 : Nat} {s0 : St} (hw : Weak Inv.pin s s0) (h1 : I n0 s0)
    (round : ∀ n s, I n s → Does P Inv c (thenQ (fun s' => ∃ n' s'', n' < n ∧ Weak Inv.pin s' s'' ∧ I n' s'') Q) s) : Does P Inv (.loop c) Q s := sem_ofL (sem_headN I hw h1 round)

end rules

/-! ### A function's results -/

def resVal (P : Program) (s : St) : ResultVar → Option AV
  | .tmp t => some (s.tmps.getD t .top)
  | .cell a t => match tinfo P t with
    | some ti => absLoadAt s.heap ti (s.tmps.getD a .top)
    | none => none

def resAll (P : Program) (s : St) : List ResultVar → Option (List AV)
  | [] => some []
  | r :: rs => match resVal P s r, resAll P s rs with
    | some x, some xs => match resolve s.heap rfuel x with
      | some y => some (y :: xs)
      | none => none
    | _, _ => none

def oneOrTuple : List AV → AV
  | [x] => x
  | xs => .tuple xs

/-- The function's result, as its caller may have it. -/
def resultOf (P : Program) (rs : List ResultVar) (s : St) : Option AV :=
  match resAll P s rs with
  | some xs => some (oneOrTuple xs)
  | none => none

def resF (tmps : Array Value) : ResultVar → Go.Sem Value
  | .tmp t => pure (tmps.getD t undef)
  | .cell b t => do loadVar t (← asAddr (tmps.getD b undef))

theorem results_eq (fn : Func) (tmps : Array Value) : results fn tmps = (do let vs ← fn.results.mapM (resF tmps); pure (if h : vs.size = 1 then vs[0] else .tuple vs)) := by
  unfold results
  congr 1

section
variable {P : Program} {Inv : IV}

theorem resVal_run {w0 w : World} {A0 : Cx} {A : Nat → Prop} {M : Nat → Option MB} {s : St} {a : Act} (hs : SR w0 A0 w A M s a) {r : ResultVar} {x : AV} (h : resVal P s r = some x) :
    ∃ v, (resF a.tmps r).run P w = .ok v w ∧ Rel w A M v x := by
  cases r with
  | tmp t =>
    simp only [resVal, Option.some.injEq] at h
    have := hs.eval (.tmp t)
    simp only [St.eval, Act.eval] at this
    rw [h] at this
    exact ⟨_, rfl, this⟩
  | cell b t =>
    simp only [resVal] at h
    split at h
    case h_2 => simp at h
    rename_i ti hti
    have hb := hs.eval (.tmp b)
    simp only [St.eval, Act.eval] at hb
    obtain ⟨u, hu, hru⟩ := loadAt_sound hti hs.heap hb h
    refine ⟨u, ?_, hru⟩
    have hp : ∃ ad, a.tmps.getD b undef = .pointer (some ad) := by
      unfold absLoadAt at h
      split at h
      · rename_i hx; rw [hx] at hb; obtain ⟨b', o', e, _⟩ := eptr_move hb; exact ⟨_, e⟩
      · rename_i id ver i j hx
        rw [hx] at hb
        split at h
        case h_2 => simp at h
        rename_i bx hbx
        obtain ⟨m, _, _, e⟩ := own_at hs.heap hb hbx
        exact ⟨_, e⟩
      · simp at h
    obtain ⟨ad, hp⟩ := hp
    show (do loadVar t (← asAddr (a.tmps.getD b undef)) : Go.Sem Value).run P w = _
    rw [hp] at hu ⊢
    simpa [Instr.loadAt, Instr.sureAddr, asAddr] using hu

theorem resAll_run {w0 w : World} {A0 : Cx} {A : Nat → Prop} {M : Nat → Option MB} {s : St} {a : Act} (hs : SR w0 A0 w A M s a) (hA0 : ∀ b, A0.av b → b < w0.heap.size) : ∀ {rs : List ResultVar} {xs : List AV}, resAll P s rs = some xs →
    ∃ vs, (rs.mapM (resF a.tmps)).run P w = .ok vs w ∧ RC w A0.av noBox vs xs
  | [], xs, h => by
    simp only [resAll, Option.some.injEq] at h; subst h
    exact ⟨[], by simp, rfl, by simp⟩
  | r :: rs, xs, h => by
    unfold resAll at h
    split at h
    case h_2 => simp at h
    rename_i x ys hx hys
    split at h
    case h_2 => simp at h
    rename_i y hy
    simp only [Option.some.injEq] at h; subst h
    obtain ⟨v, hv, hrv⟩ := resVal_run hs hx
    obtain ⟨vs, hvs, hrc⟩ := resAll_run hs hA0 hys
    refine ⟨v :: vs, ?_, ?_⟩
    · rw [List.mapM_cons]
      simp only [Sem.run_bind, hv, hvs, Result.andThen_ok, Sem.run_pure]
    · have hy' : Rel w A0.av noBox v y := resolve_sound hs.heap (fun b hb h => (hs.outer b (hA0 b h)).2 h) rfuel v x y hrv hy fun id _ m hm hc0 hA => by
        obtain ⟨bx, _, hbat⟩ := hs.heap.box id m hm
        have := hbat.low hc0
        have := hA0 _ hA
        omega
      refine ⟨by simp [hrc.1], fun i hi => ?_⟩
      cases i with
      | zero => simpa using hy'
      | succ i => have := hrc.2 i (by simp at hi; omega); simpa using this

theorem results_run {w0 w : World} {A0 : Cx} {A : Nat → Prop} {M : Nat → Option MB} {s : St} {a : Act} (hs : SR w0 A0 w A M s a) (hA0 : ∀ b, A0.av b → b < w0.heap.size) {fn : Func} {r : AV} (h : resultOf P fn.results.toList s = some r) :
    ∃ v, (results fn a.tmps).run P w = .ok v w ∧ Rel w A0.av noBox v r := by
  unfold resultOf at h
  split at h
  case h_2 => simp at h
  rename_i xs hxs
  simp only [Option.some.injEq] at h; subst h
  obtain ⟨vs, hvs, hrc⟩ := resAll_run (P := P) hs hA0 hxs
  refine ⟨if h : vs.toArray.size = 1 then vs.toArray[0] else .tuple vs.toArray, ?_, ?_⟩
  · rw [results_eq, Array.mapM_eq_mapM_toList]
    simp only [Sem.run_bind, Sem.run_map, hvs, Result.andThen_ok, Sem.run_pure]
  · have hl := hrc.1
    have hr := hrc.2
    match vs, xs, hl, hr with
    | [v], [x], _, hr => simpa [oneOrTuple] using hr 0 (by simp)
    | [], [], _, _ => simpa [oneOrTuple] using Rel.tuple (w := w) (A := A0.av) (M := noBox) #[] [] rfl (by simp)
    | v1 :: v2 :: vs, x1 :: x2 :: xs, hl, hr =>
      have hne : ¬ (v1 :: v2 :: vs).toArray.size = 1 := by simp
      rw [dif_neg hne]
      simp only [oneOrTuple]
      refine .tuple _ _ (by simpa using hl) fun i hi => ?_
      rw [getD_toArray]
      exact hr i hi

/-- A CONTRACT OUT OF THE BODY. -/
theorem good_of (hIo : InvOk Inv) {f : FuncId} {fn : Func} {c : Code} {args : List AV} {r : AV} (hf : P.funcs[f]? = some fn) (hb : fn.body = some c) (hname : (fn.name == "runtime.NumGoroutine") = false)
    (h : Does P Inv c (fun e s => (e = .ret ∨ e = .normal) ∧ resultOf P fn.results.toList s = some r) ⟨args ++ List.replicate (fn.ntmps - args.length) (.tuple []), []⟩) : Good P Inv f args r := by
  refine ⟨⟨fn, hf, by rw [hb]; rfl, hname⟩, fun w A vs hI hA hrc => ?_⟩
  refine calls_of_wp hf hb ?_
  refine h w ⟨A, w, A, noBox, 0⟩ w A noBox _ _ hI (Nat.zero_le _) ⟨Below.refl _ _, fun _ _ => Iff.rfl, ?_, fun t ht => ?_, ⟨fun id m hm => by simp [noBox] at hm, fun _ _ _ _ h => by simp [noBox] at h, hA⟩, rfl, Ev.refl (C := ⟨A, w, A, noBox, 0⟩)⟩ ?_
  · simp [hrc.1]
  · simp only [List.length_append, List.length_replicate] at ht
    have hl := hrc.1
    by_cases hta : t < args.length
    · have e1 : (vs.toArray ++ Array.replicate (fn.ntmps - vs.toArray.size) undef).getD t undef = vs.getD t undef := by
        have : t < vs.length := by omega
        simp [List.getD_eq_getElem?_getD, Array.getElem?_append, this]
      have e2 : (args ++ List.replicate (fn.ntmps - args.length) (AV.tuple [])).getD t .top = args.getD t .top := by
        simp [List.getD_eq_getElem?_getD, List.getElem?_append, hta]
      rw [e1, e2]; exact hrc.2 t hta
    · have h1 : ¬ t < vs.length := by omega
      have e1 : (vs.toArray ++ Array.replicate (fn.ntmps - vs.toArray.size) undef).getD t undef = undef := by
        have h2 : t - vs.length < fn.ntmps - vs.length := by omega
        simp [Array.getElem?_append, h1, h2]
      have e2 : (args ++ List.replicate (fn.ntmps - args.length) (AV.tuple [])).getD t .top = .tuple [] := by
        have h2 : t - args.length < fn.ntmps - args.length := by omega
        simp [List.getD_eq_getElem?_getD, List.getElem?_append, hta, h2]
      rw [e1, e2]
      exact .tuple #[] [] rfl (by simp)
  · rintro e s' a' w' ⟨he, hr⟩ ⟨A', M', hs'⟩
    obtain ⟨v, hv, hrel⟩ := results_run (P := P) hs' hA hr
    have : bodyPost P fn (fun e w' => ∃ v, e = .returned v ∧ Below w.heap.size w w' ∧ Rel w' A noBox v r) .ret a' w' := ⟨hs'.defers, v, hv, v, rfl, hs'.base, hrel⟩
    rcases he with rfl | rfl <;> exact this

end
end Go.Sim
/- What is to be shown of a body, as a proposition that can be computed step by step. -/
set_option linter.unusedVariables false
set_option linter.unusedSimpArgs false
set_option linter.unnecessarySimpa false
namespace Go.Sim
open Go.RowKit

/-- Both ways of a test. -/
def both (t : Bool) (a b : Prop) : Prop := (t = true → a) ∧ (t = false → b)

/-- A call of a function value: by a contract. -/
def CallK (P : Program) (Inv : IV) (s : St) (c : Call) (d : Option Tmp) (K : St → Prop) : Prop :=
  ∃ s', (OpF P Inv s ⟨d, .call c, 0, "", #[], none⟩ s' ∨ OpI P Inv s ⟨d, .call c, 0, "", #[], none⟩ s') ∧ K s'

/-- The same where nothing may be written. -/
def CallF (P : Program) (Inv : IV) (s : St) (c : Call) (d : Option Tmp) (K : St → Prop) : Prop :=
  ∃ s', OpF P Inv s ⟨d, .call c, 0, "", #[], none⟩ s' ∧ K s'

def fstep (P : Program) (o : Oper) (s : St) (K : St → Prop) : Prop :=
  match fop P s.eval s.heap s.heap.length o.op with
  | some (x, nb) => K ⟨putT s.tmps o.dst x, s.heap ++ nb.toList⟩
  | none => False

def istep (P : Program) (o : Oper) (s : St) (K : St → Prop) : Prop :=
  match iop P s.eval s.heap o.op with
  | some (x, H) => K ⟨putT s.tmps o.dst x, H⟩
  | none => False

def isImp : Op → Bool
  | .store _ _ _ => true
  | .call c => match c.callee with
    | .builtin .append => true
    | .builtin .clear => true
    | _ => false
  | _ => false

def stepF (P : Program) (Inv : IV) (o : Oper) (s : St) (K : St → Prop) : Prop :=
  match o.op with
  | .pick c a b => match s.eval c with
    | .bool t => both t (K ⟨putT s.tmps o.dst (s.eval a), s.heap⟩) (K ⟨putT s.tmps o.dst (s.eval b), s.heap⟩)
    | _ => False
  | .call c => match c.callee with
    | .value _ => CallF P Inv s c o.dst K
    | _ => fstep P o s K
  | _ => fstep P o s K

def stepA (P : Program) (Inv : IV) (o : Oper) (s : St) (K : St → Prop) : Prop :=
  match o.op with
  | .pick c a b => match s.eval c with
    | .bool t => both t (K ⟨putT s.tmps o.dst (s.eval a), s.heap⟩) (K ⟨putT s.tmps o.dst (s.eval b), s.heap⟩)
    | _ => False
  | .call c => match c.callee with
    | .value _ => CallK P Inv s c o.dst K
    | _ => if isImp o.op = true then istep P o s K else fstep P o s K
  | _ => if isImp o.op = true then istep P o s K else fstep P o s K

section
variable {P : Program} {Inv : IV}

theorem opF_irrel {s s' : St} {o : Oper} {c : Call} (ho : o.op = .call c) (h : OpF P Inv s ⟨o.dst, .call c, 0, "", #[], none⟩ s') : OpF P Inv s o s' := by
  rcases h with ⟨x, nb, h1, h2⟩ | ⟨c', g, args, args', r, h1, h2⟩
  · exact .inl ⟨x, nb, by rw [ho]; exact h1, h2⟩
  · simp only [Op.call.injEq] at h1; subst h1
    exact .inr ⟨c, g, args, args', r, ho, h2⟩

theorem opI_irrel {s s' : St} {o : Oper} {c : Call} (ho : o.op = .call c) (h : OpI P Inv s ⟨o.dst, .call c, 0, "", #[], none⟩ s') : OpI P Inv s o s' := by
  rcases h with ⟨x, H', h1, h2⟩ | ⟨c', g, args, ids, H0, r0, H0', h1, h2⟩ | ⟨s1, x, nb, h1, h2, h3⟩
  · exact .inl ⟨x, H', by rw [ho]; exact h1, h2⟩
  · simp only [Op.call.injEq] at h1; subst h1
    exact .inr (.inl ⟨c, g, args, ids, H0, r0, H0', ho, h2⟩)
  · exact .inr (.inr ⟨s1, x, nb, h1, by rw [ho]; exact h2, h3⟩)

theorem fstep_sound {o : Oper} {s : St} {K : St → Prop} (h : fstep P o s K) : ∃ s', OpF P Inv s o s' ∧ K s' := by
  unfold fstep at h
  split at h
  · rename_i x nb hx
    exact ⟨_, .inl ⟨x, nb, hx, rfl⟩, h⟩
  · exact h.elim

theorem istep_sound {o : Oper} {s : St} {K : St → Prop} (h : istep P o s K) : ∃ s', OpI P Inv s o s' ∧ K s' := by
  unfold istep at h
  split at h
  · rename_i x H hx
    exact ⟨_, .inl ⟨x, H, hx, rfl⟩, h⟩
  · exact h.elim

theorem pick_sound {o : Oper} {s : St} {K : St → Prop} {c a b : Operand} (ho : o.op = .pick c a b) {t : Bool} (hc : s.eval c = .bool t) (h : both t (K ⟨putT s.tmps o.dst (s.eval a), s.heap⟩) (K ⟨putT s.tmps o.dst (s.eval b), s.heap⟩)) : ∃ s', OpF P Inv s o s' ∧ K s' := by
  refine ⟨⟨putT s.tmps o.dst (if t = true then s.eval a else s.eval b), s.heap⟩, .inl ⟨if t = true then s.eval a else s.eval b, none, by simp only [ho, fop, hc], by simp⟩, ?_⟩
  cases t
  · exact h.2 rfl
  · exact h.1 rfl

theorem stepF_sound {o : Oper} {s : St} {K : St → Prop} (h : stepF P Inv o s K) : ∃ s', OpF P Inv s o s' ∧ K s' := by
  unfold stepF at h
  split at h
  · rename_i c a b ho
    split at h
    · rename_i t ht; exact pick_sound ho ht h
    · exact h.elim
  · rename_i c ho
    split at h
    · obtain ⟨s', h1, h2⟩ := h; exact ⟨s', opF_irrel ho h1, h2⟩
    · exact fstep_sound h
  · exact fstep_sound h

theorem stepA_sound {o : Oper} {s : St} {K : St → Prop} (h : stepA P Inv o s K) : ∃ s', OpA P Inv s o s' ∧ K s' := by
  unfold stepA at h
  split at h
  · rename_i c a b ho
    split at h
    · rename_i t ht; obtain ⟨s', h1, h2⟩ := pick_sound (P := P) (Inv := Inv) ho ht h; exact ⟨s', .inl h1, h2⟩
    · exact h.elim
  · rename_i c ho
    split at h
    · obtain ⟨s', h1, h2⟩ := h
      rcases h1 with h1 | h1
      · exact ⟨s', .inl (opF_irrel ho h1), h2⟩
      · exact ⟨s', .inr (opI_irrel ho h1), h2⟩
    · split at h
      · obtain ⟨s', h1, h2⟩ := istep_sound (Inv := Inv) h; exact ⟨s', .inr h1, h2⟩
      · obtain ⟨s', h1, h2⟩ := fstep_sound (Inv := Inv) h; exact ⟨s', .inl h1, h2⟩
  · split at h
    · obtain ⟨s', h1, h2⟩ := istep_sound (Inv := Inv) h; exact ⟨s', .inr h1, h2⟩
    · obtain ⟨s', h1, h2⟩ := fstep_sound (Inv := Inv) h; exact ⟨s', .inl h1, h2⟩

theorem callF_good {s : St} {c : Call} {d : Option Tmp} {K : St → Prop} {g : FuncId} {args args' : List AV} {r : AV} (hct : callTarget s c = some (g, args)) (hm : mapO (resolve s.heap rfuel) args = some args') (hg : Good P Inv g args' r)
    (hK : K ⟨putT s.tmps d r, afterCall s.heap args r⟩) : CallF P Inv s c d K :=
  ⟨_, .inr ⟨c, g, args, args', r, rfl, hct, hm, hg, rfl⟩, hK⟩

theorem both_true {a b : Prop} (h : a) : both true a b := ⟨fun _ => h, fun e => by simp at e⟩

theorem both_false {a b : Prop} (h : b) : both false a b := ⟨fun e => by simp at e, fun _ => h⟩

theorem set_same {ts : List AV} {d : Nat} {x : AV} (h : ts[d]? = some x) : ts.set d x = ts := by
  apply List.ext_getElem?
  intro i
  by_cases hi : d = i
  · subst hi
    have : d < ts.length := by
      rcases Nat.lt_or_ge d ts.length with h' | h'
      · exact h'
      · rw [List.getElem?_eq_none h'] at h; simp at h
    simp [this]
    rw [List.getElem?_eq_getElem this] at h
    simpa using h.symm
  · simp [List.getElem?_set_ne hi]

end
end Go.Sim
