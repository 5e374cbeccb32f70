/- Handing values on to a callee: boxes of the call's own that are read from then on as slices that nobody writes. -/
import Derived.Test.YtkoepgogaojgmaaDoorSimG
set_option linter.unusedVariables false
set_option linter.unusedSimpArgs false
set_option linter.unnecessarySimpa false
namespace Go.Sim
open Go.RowKit

mutual
/-- No box of the call's own stands in it. -/
def AV.pure : AV → Bool
  | .agg cs => AV.pures cs
  | .list _ xs => AV.pures xs
  | .eptr _ xs _ _ => AV.pures xs
  | .own _ _ _ _ => false
  | .osl _ _ _ _ => false
  | .func _ cs => AV.pures cs
  | .tuple vs => AV.pures vs
  | .top => true
  | .bool _ => true
  | .int _ _ => true
  | .str _ => true
  | .nils => true
  | .nilptr => true
  | .nilfn => true
  | .gptr _ => true
def AV.pures : List AV → Bool
  | [] => true
  | x :: xs => AV.pure x && AV.pures xs
end

mutual
/-- No memory stands behind it. -/
def AV.flat : AV → Bool
  | .agg cs => AV.flats cs
  | .list _ _ => false
  | .eptr _ _ _ _ => false
  | .own _ _ _ _ => false
  | .osl _ _ _ _ => false
  | .func _ cs => AV.flats cs
  | .tuple vs => AV.flats vs
  | .top => true
  | .bool _ => true
  | .int _ _ => true
  | .str _ => true
  | .nils => true
  | .nilptr => true
  | .nilfn => true
  | .gptr _ => true
def AV.flats : List AV → Bool
  | [] => true
  | x :: xs => AV.flat x && AV.flats xs
end

theorem pures_eq : ∀ xs : List AV, AV.pures xs = xs.all AV.pure
  | [] => by simp [AV.pures]
  | x :: xs => by simp [AV.pures, pures_eq xs]

theorem flats_eq : ∀ xs : List AV, AV.flats xs = xs.all AV.flat
  | [] => by simp [AV.flats]
  | x :: xs => by simp [AV.flats, flats_eq xs]

theorem pures_getD {xs : List AV} (h : AV.pures xs = true) (i : Nat) : (xs.getD i .top).pure = true := by
  rw [pures_eq, List.all_eq_true] at h
  by_cases hi : i < xs.length
  · simp only [List.getD_eq_getElem?_getD, List.getElem?_eq_getElem hi, Option.getD_some]; exact h _ (List.getElem_mem _)
  · simp [List.getD_eq_getElem?_getD, List.getElem?_eq_none (Nat.le_of_not_lt hi), AV.pure]

theorem flats_getD {xs : List AV} (h : AV.flats xs = true) (i : Nat) : (xs.getD i .top).flat = true := by
  rw [flats_eq, List.all_eq_true] at h
  by_cases hi : i < xs.length
  · simp only [List.getD_eq_getElem?_getD, List.getElem?_eq_getElem hi, Option.getD_some]; exact h _ (List.getElem_mem _)
  · simp [List.getD_eq_getElem?_getD, List.getElem?_eq_none (Nat.le_of_not_lt hi), AV.flat]

theorem pure_cells {x : AV} (h : x.pure = true) : AV.pures x.cells = true := by
  cases x <;> first | (simpa [AV.pure, AV.cells] using h) | (simp [AV.cells, AV.pures, h])

theorem Rel.pure {w : World} {A : Nat → Prop} {M M' : Nat → Option MB} {v : Value} {x : AV} (h : Rel w A M v x) : x.pure = true → Rel w A M' v x := by
  induction h with
  | top v => intro _; exact .top v
  | bool b => intro _; exact .bool b
  | int k n => intro _; exact .int k n
  | str s => intro _; exact .str s
  | agg vs cs h hr ih => intro hp; exact .agg vs cs h fun i hi => ih i hi (pures_getD (by simpa [AV.pure] using hp) i)
  | nils => intro _; exact .nils
  | list0 a cap sz => intro _; exact .list0 a cap sz
  | list b off cap sz xs val ha hb hne hcap hsz hc hr ih =>
    intro hp
    exact .list b off cap sz xs val ha hb hne hcap hsz hc fun i j hi hj => ih i j hi hj (pures_getD (pure_cells (pures_getD (by simpa [AV.pure] using hp) i)) j)
  | eptr b off sz xs i0 j0 val ha hb hi hsz hc hr ih =>
    intro hp
    exact .eptr b off sz xs i0 j0 val ha hb hi hsz hc fun i j hi hj => ih i j hi hj (pures_getD (pure_cells (pures_getD (by simpa [AV.pure] using hp) i)) j)
  | own v id ver i j m hm hv h1 he => intro hp; simp [AV.pure] at hp
  | osl v id ver off len m hm hv h1 he => intro hp; simp [AV.pure] at hp
  | nilptr => intro _; exact .nilptr
  | func f vs cs h hr ih => intro hp; exact .func f vs cs h fun i hi => ih i hi (pures_getD (by simpa [AV.pure] using hp) i)
  | nilfn => intro _; exact .nilfn
  | tuple vs cs h hr ih => intro hp; exact .tuple vs cs h fun i hi => ih i hi (pures_getD (by simpa [AV.pure] using hp) i)
  | gptr g => intro _; exact .gptr g

theorem Rel.flat {w w' : World} {A A' : Nat → Prop} {M M' : Nat → Option MB} {v : Value} {x : AV} (h : Rel w A M v x) : x.flat = true → Rel w' A' M' v x := by
  induction h with
  | top v => intro _; exact .top v
  | bool b => intro _; exact .bool b
  | int k n => intro _; exact .int k n
  | str s => intro _; exact .str s
  | agg vs cs h hr ih => intro hp; exact .agg vs cs h fun i hi => ih i hi (flats_getD (by simpa [AV.flat] using hp) i)
  | nils => intro _; exact .nils
  | list0 a cap sz => intro _; exact .list0 a cap sz
  | list b off cap sz xs val ha hb hne hcap hsz hc hr ih => intro hp; simp [AV.flat] at hp
  | eptr b off sz xs i0 j0 val ha hb hi hsz hc hr ih => intro hp; simp [AV.flat] at hp
  | own v id ver i j m hm hv h1 he => intro hp; simp [AV.flat] at hp
  | osl v id ver off len m hm hv h1 he => intro hp; simp [AV.flat] at hp
  | nilptr => intro _; exact .nilptr
  | func f vs cs h hr ih => intro hp; exact .func f vs cs h fun i hi => ih i hi (flats_getD (by simpa [AV.flat] using hp) i)
  | nilfn => intro _; exact .nilfn
  | tuple vs cs h hr ih => intro hp; exact .tuple vs cs h fun i hi => ih i hi (flats_getD (by simpa [AV.flat] using hp) i)
  | gptr g => intro _; exact .gptr g

/-! ### Boxes read as slices -/

def mapO (r : AV → Option AV) : List AV → Option (List AV)
  | [] => some []
  | x :: xs => match r x, mapO r xs with
    | some y, some ys => some (y :: ys)
    | _, _ => none

def resE (r : AV → Option AV) : AV → Option AV
  | .agg cs => match mapO r cs with
    | some ds => some (.agg ds)
    | none => none
  | x => r x

def mapE (r : AV → Option AV) (xs : List AV) : Option (List AV) := if AV.pures xs = true then some xs else mapO (resE r) xs

/-- The value as a callee may have it. -/
def resolve (H : List Box) : Nat → AV → Option AV
  | 0, x => if x.pure = true then some x else none
  | n + 1, x => if x.pure = true then some x else
    match x with
    | .agg cs => match mapO (resolve H n) cs with | some ds => some (.agg ds) | none => none
    | .func f cs => match mapO (resolve H n) cs with | some ds => some (.func f ds) | none => none
    | .own id ver i j => match getBox H id ver with
      | some bx => match mapE (resolve H n) bx.xs with
        | some ys => if i < bx.xs.length then some (.eptr bx.sz ys i j) else none
        | none => none
      | none => none
    | .osl id ver off len => match getBox H id ver with
      | some bx => match mapE (resolve H n) ((bx.xs.drop off).take len) with
        | some ys => if off + len ≤ bx.xs.length then some (.list bx.sz ys) else none
        | none => none
      | none => none
    | _ => none

/-- The boxes that a value reaches. -/
def reach (H : List Box) : Nat → AV → List Nat
  | 0, _ => []
  | n + 1, x => if x.pure = true then [] else
    match x with
    | .agg cs => cs.flatMap (reach H n)
    | .func _ cs => cs.flatMap (reach H n)
    | .own id _ _ _ => id :: (match H[id]? with | some bx => if AV.pures bx.xs = true then [] else bx.xs.flatMap fun (e : AV) => e.cells.flatMap (reach H n) | none => [])
    | .osl id _ off len => id :: (match H[id]? with | some bx => if AV.pures ((bx.xs.drop off).take len) = true then [] else ((bx.xs.drop off).take len).flatMap fun (e : AV) => e.cells.flatMap (reach H n) | none => [])
    | _ => []

theorem getD_mem {xs : List AV} {i : Nat} (hi : i < xs.length) : xs.getD i .top ∈ xs := by
  simp only [List.getD_eq_getElem?_getD, List.getElem?_eq_getElem hi, Option.getD_some]; exact List.getElem_mem _

theorem reach_pure {H : List Box} {n : Nat} {x : AV} (h : x.pure = true) : reach H n x = [] := by
  cases n with
  | zero => rfl
  | succ n => unfold reach; rw [if_pos h]

theorem mapO_spec {r : AV → Option AV} : ∀ {xs ys : List AV}, mapO r xs = some ys → ys.length = xs.length ∧ ∀ i, i < xs.length → r (xs.getD i .top) = some (ys.getD i .top)
  | [], ys, h => by simp [mapO] at h; subst h; simp
  | x :: xs, ys, h => by
    unfold mapO at h
    split at h
    · rename_i y zs h1 h2
      simp only [Option.some.injEq] at h; subst h
      obtain ⟨e1, e2⟩ := mapO_spec h2
      refine ⟨by simp [e1], fun i hi => ?_⟩
      cases i with
      | zero => simpa using h1
      | succ i => have := e2 i (by simp at hi; omega); simpa using this
    · simp at h

theorem mapO_getD {r : AV → Option AV} {xs ys : List AV} (h : mapO r xs = some ys) {i : Nat} (hi : i < xs.length) : r (xs.getD i .top) = some (ys.getD i .top) := (mapO_spec h).2 i hi

/-- Cells of a resolved element. -/
theorem resE_cells {H : List Box} {n : Nat} {x y : AV} (h : resE (resolve H n) x = some y) (hx : x.cells.all AV.one = true) :
    y.cells.length = x.cells.length ∧ ∀ j, j < x.cells.length → resolve H n (x.cells.getD j .top) = some (y.cells.getD j .top) := by
  have key : ∀ x y : AV, x.cells = [x] → x.one = true → resolve H n x = some y → y.cells.length = x.cells.length ∧ ∀ j, j < x.cells.length → resolve H n (x.cells.getD j .top) = some (y.cells.getD j .top) := by
    intro x y hc h1 hr
    have hy : y.cells = [y] := by
      cases n with
      | zero =>
        unfold resolve at hr
        split at hr
        · simp only [Option.some.injEq] at hr; subst hr; exact hc
        · simp at hr
      | succ n =>
        unfold resolve at hr
        split at hr
        · simp only [Option.some.injEq] at hr; subst hr; exact hc
        · split at hr <;> first
            | (simp [AV.one] at h1; done)
            | (simp at hr; done)
            | (split at hr
               · simp only [Option.some.injEq] at hr; subst hr; rfl
               · simp at hr)
            | (split at hr
               · split at hr
                 · split at hr
                   · simp only [Option.some.injEq] at hr; subst hr; rfl
                   · simp at hr
                 · simp at hr
               · simp at hr)
    rw [hc, hy]
    refine ⟨rfl, fun j hj => ?_⟩
    have : j = 0 := by simpa using hj
    subst this
    exact hr
  cases x with
  | agg cs =>
    simp only [resE] at h
    split at h
    · rename_i ds hds
      simp only [Option.some.injEq] at h; subst h
      exact ⟨(mapO_spec hds).1, fun j hj => mapO_getD hds hj⟩
    · simp at h
  | top => simp [AV.cells, AV.one] at hx
  | tuple vs => simp [AV.cells, AV.one] at hx
  | _ => exact key _ _ rfl (by simpa [AV.cells] using hx) h

theorem resolve_one {H : List Box} {n : Nat} {x y : AV} (h : resolve H n x = some y) (hx : x.one = true) : y.one = true := by
  cases n with
  | zero =>
    unfold resolve at h
    split at h
    · simp only [Option.some.injEq] at h; subst h; exact hx
    · simp at h
  | succ n =>
    unfold resolve at h
    split at h
    · simp only [Option.some.injEq] at h; subst h; exact hx
    · split at h <;> first
        | (simp [AV.one] at hx; done)
        | (simp at h; done)
        | (split at h
           · simp only [Option.some.injEq] at h; subst h; rfl
           · simp at h)
        | (split at h
           · split at h
             · split at h
               · simp only [Option.some.injEq] at h; subst h; rfl
               · simp at h
             · simp at h
           · simp at h)

theorem resolve_pure {H : List Box} {n : Nat} {x : AV} (h : x.pure = true) : resolve H n x = some x := by
  cases n <;> simp [resolve, h]

/-- A resolved list of elements: each cell resolved. -/
theorem mapE_cells {H : List Box} {n sz : Nat} {xs ys : List AV} (h : mapE (resolve H n) xs = some ys) (hok : ∀ x, x ∈ xs → x.okElem sz = true) :
    ys.length = xs.length ∧ (∀ y, y ∈ ys → y.okElem sz = true) ∧ ∀ i j, i < xs.length → j < sz → resolve H n ((xs.getD i .top).cells.getD j .top) = some ((ys.getD i .top).cells.getD j .top) := by
  unfold mapE at h
  split at h
  · rename_i hp
    simp only [Option.some.injEq] at h; subst h
    exact ⟨rfl, hok, fun i j hi hj => resolve_pure (pures_getD (pure_cells (pures_getD hp i)) j)⟩
  · obtain ⟨h1, h2⟩ := mapO_spec h
    have at_ : ∀ i, i < xs.length → xs.getD i .top ∈ xs := fun i hi => by
      simp only [List.getD_eq_getElem?_getD, List.getElem?_eq_getElem hi, Option.getD_some]; exact List.getElem_mem _
    have cell : ∀ i, i < xs.length → (ys.getD i .top).cells.length = sz ∧ ∀ j, j < sz → resolve H n ((xs.getD i .top).cells.getD j .top) = some ((ys.getD i .top).cells.getD j .top) := by
      intro i hi
      have hk := hok _ (at_ i hi)
      obtain ⟨e1, e2⟩ := resE_cells (h2 i hi) (okElem_one hk)
      have hl := okElem_len hk
      exact ⟨by omega, fun j hj => e2 j (by omega)⟩
    refine ⟨h1, fun y hy => ?_, fun i j hi hj => (cell i hi).2 j hj⟩
    obtain ⟨i, hi, rfl⟩ := List.mem_iff_getElem.1 hy
    have hi' : i < xs.length := by omega
    obtain ⟨c1, c2⟩ := cell i hi'
    have e : ys.getD i .top = ys[i] := by simp [List.getD_eq_getElem?_getD, hi]
    rw [e] at c1 c2
    simp only [AV.okElem, c1, beq_self_eq_true, Bool.true_and, List.all_eq_true]
    intro c hc
    obtain ⟨j, hj, rfl⟩ := List.mem_iff_getElem.1 hc
    have hk := okElem_one (hok _ (at_ i hi'))
    have hl := okElem_len (hok _ (at_ i hi'))
    have hj' : j < sz := by omega
    have h3 := c2 j hj'
    have e3 : ys[i].cells.getD j .top = ys[i].cells[j] := by simp [List.getD_eq_getElem?_getD, hj]
    rw [e3] at h3
    refine resolve_one h3 ?_
    rw [List.all_eq_true] at hk
    have hj2 : j < (xs.getD i .top).cells.length := by omega
    exact hk _ (getD_mem hj2)

section
variable {w : World} {A A' : Nat → Prop} {M M' : Nat → Option MB} {B : Nat} {H : List Box}

theorem reach_box {n id : Nat} {e : AV} {bx : Box} (hb : H[id]? = some bx) (hnp : ¬ AV.pures bx.xs = true) (he : e ∈ bx.xs) {c : AV} (hc : c ∈ e.cells) {k : Nat} (hk : k ∈ reach H n c) :
    k ∈ (match H[id]? with | some bx => if AV.pures bx.xs = true then [] else bx.xs.flatMap fun (e : AV) => e.cells.flatMap (reach H n) | none => []) := by
  simp only [hb, hnp, if_false]
  exact List.mem_flatMap.2 ⟨e, he, List.mem_flatMap.2 ⟨c, hc, hk⟩⟩

theorem reach_seg {n id off len : Nat} {e : AV} {bx : Box} (hb : H[id]? = some bx) (hnp : ¬ AV.pures ((bx.xs.drop off).take len) = true) (he : e ∈ (bx.xs.drop off).take len) {c : AV} (hc : c ∈ e.cells) {k : Nat} (hk : k ∈ reach H n c) :
    k ∈ (match H[id]? with | some bx => if AV.pures ((bx.xs.drop off).take len) = true then [] else ((bx.xs.drop off).take len).flatMap fun (e : AV) => e.cells.flatMap (reach H n) | none => []) := by
  simp only [hb, hnp, if_false]
  exact List.mem_flatMap.2 ⟨e, he, List.mem_flatMap.2 ⟨c, hc, hk⟩⟩

theorem mem_getD {xs : List AV} {c : AV} (h : c ∈ xs) : ∃ i, i < xs.length ∧ xs.getD i .top = c := by
  obtain ⟨i, hi, rfl⟩ := List.mem_iff_getElem.1 h
  exact ⟨i, hi, by simp [List.getD_eq_getElem?_getD, hi]⟩

theorem resolve_sound (hR : HR w A M B H) (hA : ∀ b, b < w.heap.size → A' b → A b) : ∀ (n : Nat) (v : Value) (x y : AV), Rel w A M v x → resolve H n x = some y →
    (∀ id, id ∈ reach H n x → ∀ m, M id = some m → ¬ A' m.b) → Rel w A' M' v y
  | 0, v, x, y, hx, h, _ => by
    unfold resolve at h
    split at h
    · rename_i hp
      simp only [Option.some.injEq] at h; subst h
      exact (hx.mono (fun _ _ _ => rfl) (Nat.le_refl _) hA (MExt.refl M)).pure hp
    · simp at h
  | n + 1, v, x, y, hx, h, hid => by
    unfold resolve at h
    unfold reach at hid
    split at h
    · rename_i hp
      simp only [Option.some.injEq] at h; subst h
      exact (hx.mono (fun _ _ _ => rfl) (Nat.le_refl _) hA (MExt.refl M)).pure hp
    rename_i hp
    simp only [hp, if_false] at hid
    split at h
    · rename_i cs
      split at h
      case h_2 => simp at h
      rename_i ds hds
      simp only [Option.some.injEq] at h; subst h
      obtain ⟨vs, rfl, hs, hr⟩ := hx.agg_inv
      obtain ⟨e1, e2⟩ := mapO_spec hds
      exact .agg vs ds (by omega) fun i hi => resolve_sound hR hA n _ _ _ (hr i (by omega)) (e2 i (by omega)) fun k hk m hm => hid k (List.mem_flatMap.2 ⟨_, getD_mem (by omega), hk⟩) m hm
    · rename_i f cs
      split at h
      case h_2 => simp at h
      rename_i ds hds
      simp only [Option.some.injEq] at h; subst h
      obtain ⟨vs, rfl, hs, hr⟩ := hx.func_inv
      obtain ⟨e1, e2⟩ := mapO_spec hds
      exact .func f vs ds (by omega) fun i hi => resolve_sound hR hA n _ _ _ (hr i (by omega)) (e2 i (by omega)) fun k hk m hm => hid k (List.mem_flatMap.2 ⟨_, getD_mem (by omega), hk⟩) m hm
    · rename_i id ver i j
      split at h
      case h_2 => simp at h
      rename_i bx hbx
      split at h
      case h_2 => simp at h
      rename_i ys hys
      split at h
      case isFalse => simp at h
      rename_i hi
      simp only [Option.some.injEq] at h; subst h
      obtain ⟨m, hm, hbat, rfl⟩ := own_at hR hx hbx
      have hb1 := (getBox_some hbx).1
      obtain ⟨c, h1, h2, h3⟩ := hbat.cells
      obtain ⟨e1, e2, e3⟩ := mapE_cells hys (fun x hx => hbat.ok x hx)
      have hsz := hbat.sz
      have hcell : ∀ i j, i < bx.xs.length → j < m.sz → w.cell? ⟨m.b, i * m.sz + j, none⟩ = some (c.getD (i * m.sz + j) undef) := by
        intro i j hi hj
        have hk : i * m.sz + j < c.size := by rw [h2]; exact idx_lt (Nat.lt_of_lt_of_le hi hbat.fits) hj
        simp [World.cell?, h1, hk]
      have hna : ¬ A' m.b := hid id (by simp) m hm
      have := Rel.eptr (w := w) (A := A') (M := M') m.b 0 m.sz ys i j (fun i j => c.getD (i * m.sz + j) undef) hna hbat.lt (by omega) e2
        (fun i j hi hj => by rw [Nat.zero_add]; exact hcell i j (by omega) hj)
        (fun i j hi hj => resolve_sound hR hA n _ _ _ (h3 i j (by omega) hj) (e3 i j (by omega) hj) fun k hk m' hm' => by
          by_cases hpp : AV.pures bx.xs = true
          · have hcp := pures_getD (pure_cells (pures_getD hpp i)) j
            have : reach H n ((bx.xs.getD i .top).cells.getD j .top) = [] := reach_pure hcp
            rw [this] at hk; simp at hk
          · refine hid k (List.mem_cons_of_mem _ (reach_box hb1 hpp (getD_mem (show i < bx.xs.length by omega)) ?_ hk)) m' hm'
            have hl := okElem_len (hbat.ok _ (getD_mem (show i < bx.xs.length by omega)))
            exact getD_mem (by omega))
      rw [Nat.zero_add] at this
      rw [hsz]
      exact this
    · rename_i id ver off len
      split at h
      case h_2 => simp at h
      rename_i bx hbx
      split at h
      case h_2 => simp at h
      rename_i ys hys
      split at h
      case isFalse => simp at h
      rename_i hle
      simp only [Option.some.injEq] at h; subst h
      obtain ⟨m, a, hm, hbat, hfit, rfl, ha⟩ := osl_at hR hx hbx
      have hb1 := (getBox_some hbx).1
      obtain ⟨c, h1, h2, h3⟩ := hbat.cells
      have hsub : ∀ x, x ∈ (bx.xs.drop off).take len → x ∈ bx.xs := fun x hx => List.mem_of_mem_drop (List.mem_of_mem_take hx)
      obtain ⟨e1, e2, e3⟩ := mapE_cells hys (fun x hx => hbat.ok x (hsub x hx))
      have hlen : ((bx.xs.drop off).take len).length = len := by simp; omega
      have hg : ∀ i, i < len → ((bx.xs.drop off).take len).getD i .top = bx.xs.getD (off + i) .top := fun i hi => by
        simp [List.getD_eq_getElem?_getD, List.getElem?_take, hi, List.getElem?_drop]
      have hsz := hbat.sz
      have hna : ¬ A' m.b := hid id (by simp) m hm
      rw [hlen] at e1 e3
      rw [hsz]
      by_cases hz : len = 0
      · have : ys = [] := List.eq_nil_of_length_eq_zero (by omega)
        subst this; subst hz
        exact .list0 _ _ _
      · have haa := ha (.inl (by omega)); subst haa
        have := Rel.list (w := w) (A := A') (M := M') m.b (off * m.sz) (m.cap - off) m.sz ys (fun i j => c.getD ((off + i) * m.sz + j) undef) hna hbat.lt (by intro e; subst e; simp at e1; omega) (by omega) e2
          (fun i j hi hj => by
            have hk : (off + i) * m.sz + j < c.size := by rw [h2]; exact idx_lt (by omega) hj
            rw [show off * m.sz + i * m.sz + j = (off + i) * m.sz + j by rw [Nat.add_mul]]
            simp [World.cell?, h1, hk])
          (fun i j hi hj => by
            have h4 := e3 i j (by omega) hj
            rw [hg i (by omega)] at h4
            refine resolve_sound hR hA n _ _ _ (h3 (off + i) j (by omega) hj) h4 fun k hk m' hm' => ?_
            by_cases hpp : AV.pures ((bx.xs.drop off).take len) = true
            · have hcp := pures_getD (pure_cells (pures_getD hpp i)) j
              rw [hg i (by omega)] at hcp
              have : reach H n ((bx.xs.getD (off + i) .top).cells.getD j .top) = [] := reach_pure hcp
              rw [this] at hk; simp at hk
            · have hmem : bx.xs.getD (off + i) .top ∈ (bx.xs.drop off).take len := by rw [← hg i (by omega)]; exact getD_mem (by omega)
              refine hid k (List.mem_cons_of_mem _ (reach_seg hb1 hpp hmem ?_ hk)) m' hm'
              have hl := okElem_len (hbat.ok _ (getD_mem (show off + i < bx.xs.length by omega)))
              exact getD_mem (by omega))
        rw [e1] at this
        exact this
    · simp at h

end
end Go.Sim
