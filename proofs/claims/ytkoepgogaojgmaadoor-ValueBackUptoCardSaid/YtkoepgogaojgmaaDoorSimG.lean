/- New boxes; and every operation that writes nothing does what its abstract twin says: 'fop_sound'. -/
import Derived.Test.YtkoepgogaojgmaaDoorSimF
set_option linter.unusedVariables false
set_option linter.unusedSimpArgs false
set_option linter.unnecessarySimpa false
namespace Go.Sim
open Go.RowKit

/-- The operation yields a value of which 'x' holds, in a world that has only grown; 'nid' is the number of the box that it may lay. -/
def Gives (P : Program) (o : Oper) (ρc : Operand → Value) (w : World) (A : Nat → Prop) (M : Nat → Option MB) (B : Nat) (H : List Box) (nid : Nat) (x : AV) : Prop :=
  ∃ v w' A' M', (execOp ρc o).run P w = .ok (.value v) w' ∧ Below w.heap.size w w' ∧ MExt M M' ∧ (∀ b, b < w.heap.size → (A' b ↔ A b)) ∧ (∀ id, id ≠ nid → M' id = M id) ∧ HR w' A' M' B H ∧ Rel w' A' M' v x

section
variable {P : Program} {w : World} {A : Nat → Prop} {M : Nat → Option MB} {B : Nat} {H : List Box} {nid : Nat}

theorem Gives.stay {o : Oper} {ρc : Operand → Value} {x : AV} (hR : HR w A M B H) (h : ∃ v, (execOp ρc o).run P w = .ok (.value v) w ∧ Rel w A M v x) : Gives P o ρc w A M B H nid x := by
  obtain ⟨v, h1, h2⟩ := h
  exact ⟨v, w, A, M, h1, Below.refl _ _, MExt.refl M, fun _ _ => Iff.rfl, fun _ _ => rfl, hR, h2⟩

def MPut (M : Nat → Option MB) (nid : Nat) (m : MB) : Nat → Option MB := fun i => if i = nid then some m else M i

def APut (A : Nat → Prop) (b : Nat) (frz : Bool) : Nat → Prop := fun x => A x ∨ (x = b ∧ frz = false)

theorem mext_put (hn : M nid = none) (m : MB) : MExt M (MPut M nid m) := fun id m' h => ⟨m', by
  have : id ≠ nid := fun e => by rw [e, hn] at h; simp at h
  simp [MPut, this, h], .inl rfl⟩

theorem below_alloc (w : World) (o : Obj) : Below w.heap.size w (w.alloc o) := (Below.refl _ _).alloc (Nat.le_refl _) o

/-- A new block, a new box. -/
theorem alloc_step (hR : HR w A M B H) (hB : B ≤ w.heap.size) (hn : M nid = none) {bx : Box} (hH : H[nid]? = some bx) {c : Array Value} {cap : Nat} (hcm : cap ≤ maxLen) (hsz : c.size = cap * bx.sz) (hfit : bx.xs.length ≤ cap)
    (hok : ∀ x, x ∈ bx.xs → x.okElem bx.sz = true) (hc : ∀ i j, i < bx.xs.length → j < bx.sz → Rel w A M (c.getD (i * bx.sz + j) undef) ((bx.xs.getD i .top).cells.getD j .top)) :
    let m : MB := ⟨w.heap.size, bx.ver, bx.sz, cap, bx.ty⟩
    MExt M (MPut M nid m) ∧ (∀ b, b < w.heap.size → (APut A w.heap.size bx.frz b ↔ A b)) ∧ (∀ id, id ≠ nid → MPut M nid m id = M id) ∧ HR (w.alloc (.cells c bx.ty)) (APut A w.heap.size bx.frz) (MPut M nid m) B H ∧ MPut M nid m nid = some m := by
  intro m
  have hext : MExt M (MPut M nid m) := mext_put hn m
  have hA : ∀ b, b < w.heap.size → (APut A w.heap.size bx.frz b → A b) := fun b hb h => by
    rcases h with h | ⟨h, _⟩
    · exact h
    · omega
  have hbel := below_alloc w (.cells c bx.ty)
  refine ⟨hext, fun b hb => ⟨hA b hb, .inl⟩, fun id hid => by simp [MPut, hid], ⟨?_, ?_, ?_⟩, by simp [MPut]⟩
  · intro id m' hm'
    by_cases hid : id = nid
    · subst hid
      have : m' = m := by simp [MPut] at hm'; exact hm'.symm
      subst this
      refine ⟨bx, hH, ⟨rfl, rfl, rfl, hcm, hfit, hB, by simp [m], hok, ⟨c, heap_alloc_new w _, hsz, fun i j hi hj => (hc i j hi hj).mono (fun b hb _ => hbel.block b hb) hbel.size hA hext⟩, ⟨fun hf => .inr ⟨rfl, hf⟩, fun hf => by
        rcases hf with hf | ⟨_, hf⟩
        · have := hR.lt _ hf; simp [m] at this
        · exact hf⟩⟩⟩
    · have hm2 : M id = some m' := by simpa [MPut, hid] using hm'
      obtain ⟨bx', h1, h2⟩ := hR.box id m' hm2
      exact ⟨bx', h1, h2.mono (hbel.block _ h2.lt) (fun b hb _ => hbel.block b hb) hbel.size hA ⟨fun hf => .inl (h2.guard.1 hf), fun hf => h2.guard.2 (hA _ h2.lt hf)⟩ hext⟩
  · intro id id' m1 m2 h1 h2 he
    by_cases hi : id = nid <;> by_cases hi' : id' = nid
    · rw [hi, hi']
    · exfalso
      have e1 : m1 = m := by simp [MPut, hi] at h1; exact h1.symm
      have h2' : M id' = some m2 := by simpa [MPut, hi'] using h2
      obtain ⟨bx', _, h3⟩ := hR.box id' m2 h2'
      have := h3.lt
      rw [← he, e1] at this
      simp [m] at this
    · exfalso
      have e1 : m2 = m := by simp [MPut, hi'] at h2; exact h2.symm
      have h1' : M id = some m1 := by simpa [MPut, hi] using h1
      obtain ⟨bx', _, h3⟩ := hR.box id m1 h1'
      have := h3.lt
      rw [he, e1] at this
      simp [m] at this
    · exact hR.inj id id' m1 m2 (by simpa [MPut, hi] using h1) (by simpa [MPut, hi'] using h2) he
  · intro b hb
    rcases hb with hb | ⟨rfl, _⟩
    · have := hR.lt b hb; simp; omega
    · simp

/-- The box of one variable. -/
theorem alloc_var (hR : HR w A M B H) (hB : B ≤ w.heap.size) (hn : M nid = none) {o : Oper} {ρc : Operand → Value} {e : TypeId} {v : Value} {x : AV} (hv : Rel w A M v x) (hone : x.cells.all AV.one = true) {f : Bool}
    (hH : H[nid]? = some ⟨0, x.cells.length, e, [x], f⟩)
    (hrun : (execOp ρc o).run P w = .ok (.value (.pointer (some ⟨w.heap.size, 0, none⟩))) (w.alloc (.cells v.cells e))) : Gives P o ρc w A M B H nid (.own nid 0 0 0) := by
  obtain ⟨h1, h2⟩ := hv.cells hone
  have hst := alloc_step (bx := ⟨0, x.cells.length, e, [x], f⟩) (c := v.cells) (cap := 1) hR hB hn hH (by unfold maxLen; omega) (by simpa using h1) (by simp)
    (fun y hy => by simp only [List.mem_singleton] at hy; subst hy; simp only [AV.okElem, beq_self_eq_true, Bool.true_and]; exact hone)
    (fun i j hi hj => by
      have hi0 : i = 0 := by simpa using hi
      subst hi0
      have := h2 j hj
      simpa using this)
  obtain ⟨s1, s2, s3, s4, s5⟩ := hst
  exact ⟨_, _, _, _, hrun, below_alloc _ _, s1, s2, s3, s4, .own _ nid 0 0 0 _ s5 (Nat.le_refl _) rfl fun _ => by simp⟩

/-- The box of a slice. -/
theorem alloc_slice (hR : HR w A M B H) (hB : B ≤ w.heap.size) (hn : M nid = none) {o : Oper} {ρc : Operand → Value} {e : TypeId} {sz cap : Nat} {c : Array Value} {xs : List AV} {f : Bool}
    (hH : H[nid]? = some ⟨0, sz, e, xs, f⟩) (hcm : cap ≤ maxLen) (hsz : c.size = cap * sz) (hfit : xs.length ≤ cap) (hok : ∀ x, x ∈ xs → x.okElem sz = true)
    (hc : ∀ i j, i < xs.length → j < sz → Rel w A M (c.getD (i * sz + j) undef) ((xs.getD i .top).cells.getD j .top))
    (hrun : (execOp ρc o).run P w = .ok (.value (.slice (some ⟨w.heap.size, 0, none⟩) xs.length cap)) (w.alloc (.cells c e))) : Gives P o ρc w A M B H nid (.osl nid 0 0 xs.length) := by
  obtain ⟨s1, s2, s3, s4, s5⟩ := alloc_step (bx := ⟨0, sz, e, xs, f⟩) (c := c) (cap := cap) hR hB hn hH hcm hsz hfit hok hc
  exact ⟨_, _, _, _, hrun, below_alloc _ _, s1, s2, s3, s4, .osl _ nid 0 0 xs.length _ s5 (Nat.le_refl _) rfl fun _ => ⟨by simpa using hfit, ⟨w.heap.size, 0, none⟩, by simp, fun _ => by simp⟩⟩

theorem rel_replicate {z : Value} {x : AV} {n sz : Nat} (hz : Rel w A M z x) (hx : x.okElem sz = true) {i j : Nat} (hi : i < n) (hj : j < sz) {c : Array Value} (hlt : i * sz + j < c.size)
    (hc : ∀ k, k < c.size → c.getD k undef = z.cells.getD (k % z.cells.size) undef) : Rel w A M (c.getD (i * sz + j) undef) (((List.replicate n x).getD i .top).cells.getD j .top) := by
  obtain ⟨h1, h2⟩ := hz.cells (okElem_one hx)
  have hl := okElem_len hx
  have e1 : (List.replicate n x).getD i .top = x := by simp [List.getD_eq_getElem?_getD, hi]
  have e2 : (i * sz + j) % z.cells.size = j := by
    rw [h1, hl, Nat.mul_comm, Nat.mul_add_mod, Nat.mod_eq_of_lt hj]
  rw [e1, hc _ hlt, e2]
  exact h2 j (by omega)

theorem made_getD {z : Array Value} {n k : Nat} (hk : k < n) (hz : 0 < z.size) : (madeCells z n).getD k undef = z.getD (k % z.size) undef := by
  have : k % z.size < z.size := Nat.mod_lt _ hz
  simp [madeCells, hk, this]

theorem parts_ok {ps : List (Nat × Operand)} {ρc : Operand → Value} {ρ : Operand → AV} (h : ∀ o, o ∈ ps.map (·.2) → Rel w A M (ρc o) (ρ o)) :
    (ps.map fun p => (p.1, ρc p.2)).length = (ps.map fun p => (p.1, ρ p.2)).length ∧
    ∀ i, i < (ps.map fun p => (p.1, ρ p.2)).length → ((ps.map fun p => (p.1, ρc p.2)).getD i (0, undef)).1 = ((ps.map fun p => (p.1, ρ p.2)).getD i (0, .top)).1 ∧
      Rel w A M ((ps.map fun p => (p.1, ρc p.2)).getD i (0, undef)).2 ((ps.map fun p => (p.1, ρ p.2)).getD i (0, .top)).2 := by
  refine ⟨by simp, fun i hi => ?_⟩
  have hi' : i < ps.length := by simpa using hi
  simp only [List.getD_eq_getElem?_getD, List.getElem?_map, List.getElem?_eq_getElem hi', Option.map_some, Option.getD_some]
  exact ⟨trivial, h _ (List.mem_map.2 ⟨ps[i], List.getElem_mem _, rfl⟩)⟩

theorem map_rel {l : List Operand} {ρc : Operand → Value} {ρ : Operand → AV} (h : ∀ o, o ∈ l → Rel w A M (ρc o) (ρ o)) :
    (l.map ρc).length = (l.map ρ).length ∧ ∀ i, i < (l.map ρ).length → Rel w A M ((l.map ρc).getD i undef) ((l.map ρ).getD i .top) := by
  refine ⟨by simp, fun i hi => ?_⟩
  have hi' : i < l.length := by simpa using hi
  simp only [List.getD_eq_getElem?_getD, List.getElem?_map, List.getElem?_eq_getElem hi', Option.map_some, Option.getD_some]
  exact h _ (List.getElem_mem _)

set_option maxHeartbeats 1000000 in
theorem fop_sound {ρ : Operand → AV} {ρc : Operand → Value} {o : Oper} {x : AV} {nb : Option Box} (hf : fop P ρ H nid o.op = some (x, nb)) (hρ : ∀ a, a ∈ o.op.operands.toList → Rel w A M (ρc a) (ρ a))
    (hR : HR w A M B H) (hB : B ≤ w.heap.size) (hn : M nid = none) (hH : ∀ bx, nb = some bx → ∃ f, H[nid]? = some { bx with frz := f }) : Gives P o ρc w A M B H nid x := by
  unfold fop at hf
  split at hf
  · -- move
    rename_i a ho
    simp only [Option.some.injEq, Prod.mk.injEq] at hf; obtain ⟨rfl, rfl⟩ := hf
    exact .stay hR ⟨_, by simp [execOp, ho], hρ a (by simp [ho, Op.operands])⟩
  · rename_i a ho
    simp only [Option.some.injEq, Prod.mk.injEq] at hf; obtain ⟨rfl, rfl⟩ := hf
    exact .stay hR ⟨_, by simp [execOp, ho], hρ a (by simp [ho, Op.operands])⟩
  · -- pick
    rename_i c a b ho
    split at hf
    case h_2 => simp at hf
    rename_i t ht
    simp only [Option.some.injEq, Prod.mk.injEq] at hf; obtain ⟨rfl, rfl⟩ := hf
    have hc := hρ c (by simp [ho, Op.operands])
    rw [ht] at hc
    have hcv := hc.bool_inv
    refine .stay hR ⟨if t = true then ρc a else ρc b, by simp [execOp, ho, hcv, asBool], ?_⟩
    cases t
    · exact hρ b (by simp [ho, Op.operands])
    · exact hρ a (by simp [ho, Op.operands])
  · -- alloc
    rename_i e ho
    split at hf
    case h_2 => simp at hf
    rename_i ti hti
    split at hf
    case isFalse => simp at hf
    rename_i hok
    simp only [Option.some.injEq, Prod.mk.injEq] at hf; obtain ⟨rfl, rfl⟩ := hf
    obtain ⟨f, hH'⟩ := hH _ rfl
    obtain ⟨z, hz, hz'⟩ := run_zero hti w
    have hrz : Rel w A M z ti.zero := by rw [hz']; exact rel_avOf w A M z
    have hl := okElem_len hok
    refine alloc_var hR hB hn hrz (okElem_one hok) (f := f) (e := e) (by rw [hl]; exact hH') ?_
    simp [execOp, ho, Instr.alloc, hz, newVar, newRow]
  · -- box
    rename_i e a ho
    split at hf
    case isFalse => simp at hf
    rename_i hone
    simp only [Option.some.injEq, Prod.mk.injEq] at hf; obtain ⟨rfl, rfl⟩ := hf
    obtain ⟨f, hH'⟩ := hH _ rfl
    exact alloc_var hR hB hn (hρ a (by simp [ho, Op.operands])) hone (f := f) (e := e) hH' (by simp [execOp, ho, Instr.box, newVar, newRow])
  · -- build
    rename_i t parts ho
    split at hf
    case h_2 => simp at hf
    rename_i r hr
    simp only [Option.some.injEq, Prod.mk.injEq] at hf; obtain ⟨rfl, rfl⟩ := hf
    have hp := parts_ok (w := w) (A := A) (M := M) (ps := parts.toList) (ρc := ρc) (ρ := ρ) (fun a ha => hρ a (by simpa [ho, Op.operands] using ha))
    obtain ⟨v, hv, hrv⟩ := absBuild_sound (P := P) (pc := parts.map fun p => (p.1, ρc p.2)) (by simpa using hp.1) (by simpa using hp.2) hr
    exact .stay hR ⟨v, by simp only [execOp, ho, Sem.run_bind, hv, Result.andThen_ok, Sem.run_pure], hrv⟩
  · -- buildSlice
    rename_i t len parts ho
    split at hf
    case h_2 => simp at hf
    rename_i ti hti
    split at hf
    case h_2 => simp at hf
    rename_i e hd
    split at hf
    case h_2 => simp at hf
    rename_i te hte
    split at hf
    case isFalse => simp at hf
    rename_i hc0
    obtain ⟨hsm, hpos, hok⟩ := hc0
    split at hf
    case h_2 => simp at hf
    rename_i xs hxs
    simp only [Option.some.injEq, Prod.mk.injEq] at hf; obtain ⟨rfl, rfl⟩ := hf
    obtain ⟨f, hH'⟩ := hH _ rfl
    have hp := parts_ok (w := w) (A := A) (M := M) (ps := parts.toList) (ρc := ρc) (ρ := ρ) (fun a ha => hρ a (by simpa [ho, Op.operands] using ha))
    obtain ⟨i, z, hi1, hi2, hi3, hi4, _, hi6, _⟩ := tinfo_spec hte
    have hrz : Rel w A M z te.zero := by rw [hi6]; exact rel_avOf w A M z
    obtain ⟨hzc, _⟩ := hrz.cells (okElem_one hok)
    have hl := okElem_len hok
    have hzs : z.cells.size = te.sz := by omega
    have hc0 : RE w A M te.sz (madeCells z.cells (len * te.sz)).toList (List.replicate len te.zero) := by
      refine ⟨by simp [size_madeCells], fun i j hi hj => ?_⟩
      have hi' : i < len := by simpa using hi
      have hlt : i * te.sz + j < (madeCells z.cells (len * te.sz)).size := by rw [size_madeCells]; exact idx_lt hi' hj
      have := rel_replicate (n := len) hrz hok hi' hj hlt (fun k hk => made_getD (by rwa [size_madeCells] at hk) (by omega))
      simpa [List.getD_eq_getElem?_getD, Array.getD_eq_getD_getElem?] using this
    obtain ⟨c', hc1, hc2, hc3, hc4, hc5⟩ := absSet_sound te.sz _ (parts.toList.map fun p => (p.1, ρc p.2)) _ xs (madeCells z.cells (len * te.sz)) hc0 (by simp [size_madeCells]) (fun x hx => by rw [(List.mem_replicate.1 hx).2]; exact hok) hp.1 hp.2 hxs
    have hlen : xs.length = len := by simpa using hc4
    have hrunB : (Instr.buildSlice t len (parts.map fun p => (p.1, ρc p.2))).run P w = .ok (.slice (some ⟨w.heap.size, 0, none⟩) len len) (w.alloc (.cells c' e)) := by
      by_cases hz0 : len = 0
      · have hu2 : P.underlying t = some (.slice e) := by rw [tinfo_d hti, hd]
        simp only [hz0, Nat.zero_mul] at hc1
        have hm0 : madeCells z.cells 0 = #[] := by simp [madeCells]
        rw [hm0] at hc1
        rw [hi4] at hc1
        simp [Instr.buildSlice, run_underlying hu2, sizeOf, typeInfo, hi1, hz0, hc1, newRow, show Array.range 0 = #[] from rfl]
      · have hpos' : ¬ len * i.size = 0 := by rw [← hi4]; intro h; rcases Nat.mul_eq_zero.1 h with h | h <;> omega
        exact run_buildSlice w t e len _ c' i z (by rw [tinfo_d hti, hd]) hi1 hi3 (by rw [← hi4]; omega) hpos' (by rw [← hi4]; simpa [madeCells] using hc1)
    rw [← hlen] at hrunB ⊢
    have := alloc_slice (P := P) (o := o) (ρc := ρc) (e := e) (sz := te.sz) (cap := xs.length) (c := c') (xs := xs) (f := f) hR hB hn hH' (by unfold maxLen; rw [hlen]; have : len * 1 ≤ len * te.sz := Nat.mul_le_mul_left _ hpos; omega) hc3 (Nat.le_refl _) hc5
      (fun i j hi hj => by have := hc2.2 i j hi hj; simpa [List.getD_eq_getElem?_getD, Array.getD_eq_getD_getElem?] using this)
      (by simp only [execOp, ho]; rw [← hlen]; simp [hrunB])
    simpa [hlen] using this
  · -- load
    rename_i t a ho
    split at hf
    case h_2 => simp at hf
    rename_i ti hti
    split at hf
    case h_2 => simp at hf
    rename_i r hr
    simp only [Option.some.injEq, Prod.mk.injEq] at hf; obtain ⟨rfl, rfl⟩ := hf
    obtain ⟨u, hu, hru⟩ := loadAt_sound hti hR (hρ a (by simp [ho, Op.operands])) hr
    exact .stay hR ⟨u, by simp [execOp, ho, hu], hru⟩
  · -- nilCheck
    rename_i a ho
    have ha := hρ a (by simp [ho, Op.operands])
    split at hf
    · rename_i sz xs i j hx
      simp only [Option.some.injEq, Prod.mk.injEq] at hf; obtain ⟨rfl, rfl⟩ := hf
      rw [hx] at ha
      obtain ⟨b, off, hv, _⟩ := eptr_move ha
      exact .stay hR ⟨.pointer (some ⟨b, off, none⟩), by simp [execOp, ho, hv], by rw [← hv]; exact ha⟩
    · rename_i id ver i j hx
      split at hf
      case h_2 => simp at hf
      rename_i bx hbx
      simp only [Option.some.injEq, Prod.mk.injEq] at hf; obtain ⟨rfl, rfl⟩ := hf
      rw [hx] at ha
      obtain ⟨b, off, hv, _⟩ := own_move hR ha hbx
      exact .stay hR ⟨.pointer (some ⟨b, off, none⟩), by simp [execOp, ho, hv], by rw [← hv]; exact ha⟩
    · rename_i f cs hx
      simp only [Option.some.injEq, Prod.mk.injEq] at hf; obtain ⟨rfl, rfl⟩ := hf
      rw [hx] at ha
      obtain ⟨vs, hv, _⟩ := ha.func_inv
      exact .stay hR ⟨.func (.func f) #[] vs, by simp [execOp, ho, hv], by rw [← hv]; exact ha⟩
    · simp at hf
  · -- binOp
    rename_i op t a b ty ho
    split at hf
    case h_2 => simp at hf
    rename_i r hr
    simp only [Option.some.injEq, Prod.mk.injEq] at hf; obtain ⟨rfl, rfl⟩ := hf
    obtain ⟨u, hu, hru⟩ := absBin_sound (P := P) (x := a) (y := b) (hρ a (by simp [ho, Op.operands])) (hρ b (by simp [ho, Op.operands])) hr
    refine .stay hR ⟨u, ?_, hru⟩
    simp only [execOp, ho, Sem.run_bind] at hu ⊢
    rw [hu]; rfl
  · -- unOp
    rename_i op t a ho
    split at hf
    case h_2 => simp at hf
    rename_i r hr
    simp only [Option.some.injEq, Prod.mk.injEq] at hf; obtain ⟨rfl, rfl⟩ := hf
    obtain ⟨u, hu, hru⟩ := absUn_sound (P := P) (hρ a (by simp [ho, Op.operands])) hr
    exact .stay hR ⟨u, by simp [execOp, ho, hu], hru⟩
  · -- convert
    rename_i s d a ho
    split at hf
    case h_2 => simp at hf
    rename_i r hr
    simp only [Option.some.injEq, Prod.mk.injEq] at hf; obtain ⟨rfl, rfl⟩ := hf
    obtain ⟨u, hu, hru⟩ := absConv_sound (P := P) (hρ a (by simp [ho, Op.operands])) hr
    exact .stay hR ⟨u, by simp [execOp, ho, hu], hru⟩
  · -- makeFunc
    rename_i fn first captured ho
    split at hf
    case h_2 => simp at hf
    rename_i f
    split at hf
    case isFalse => simp at hf
    rename_i hfirst
    subst hfirst
    simp only [Option.some.injEq, Prod.mk.injEq] at hf; obtain ⟨rfl, rfl⟩ := hf
    have hm := map_rel (w := w) (A := A) (M := M) (l := captured.toList) (ρc := ρc) (ρ := ρ) (fun a ha => hρ a (by simpa [ho, Op.operands] using ha))
    refine .stay hR ⟨.func (.func f) #[] (captured.map ρc), by simp [execOp, ho, Instr.makeFunc], .func f _ _ (by simp) fun i hi => ?_⟩
    have := hm.2 i hi
    simpa [List.getD_eq_getElem?_getD, Array.getD_eq_getD_getElem?] using this
  · -- makeSlice
    rename_i t l c ho
    unfold absMake at hf
    split at hf
    case h_2 => simp at hf
    rename_i ti kl nl kc nc hti hnl hnc
    split at hf
    case h_2 => simp at hf
    rename_i e hd
    split at hf
    case h_2 => simp at hf
    rename_i te hte
    split at hf
    case isFalse => simp at hf
    rename_i hc0
    obtain ⟨h0, hlc, hby, h62, hok⟩ := hc0
    simp only [Option.some.injEq, Prod.mk.injEq] at hf; obtain ⟨rfl, rfl⟩ := hf
    obtain ⟨f, hH'⟩ := hH _ rfl
    have hl := hρ l (by simp [ho, Op.operands]); rw [hnl] at hl; have hlv := hl.int_inv
    have hc := hρ c (by simp [ho, Op.operands]); rw [hnc] at hc; have hcv := hc.int_inv
    obtain ⟨i, z, hi1, hi2, hi3, hi4, hi5, hi6, _⟩ := tinfo_spec hte
    have hrz : Rel w A M z te.zero := by rw [hi6]; exact rel_avOf w A M z
    obtain ⟨hzc, _⟩ := hrz.cells (okElem_one hok)
    have hll := okElem_len hok
    have hrunM := run_make (P := P) w t e i z (by rw [tinfo_d hti, hd]) hi1 hi3 kl kc nl nc h0 hlc (by rw [← hi5]; exact hby) (by omega)
    have hln : (List.replicate nl.toNat te.zero).length = nl.toNat := by simp
    have := alloc_slice (P := P) (o := o) (ρc := ρc) (e := e) (sz := te.sz) (cap := nc.toNat) (c := madeCells z.cells (nc.toNat * i.size)) (xs := List.replicate nl.toNat te.zero) (f := f) hR hB hn hH' (by unfold maxLen; omega)
      (by rw [size_madeCells, hi4]) (by rw [hln]; omega) (fun x hx => by rw [(List.mem_replicate.1 hx).2]; exact hok)
      (fun i' j hi' hj => by
        rw [hln] at hi'
        have hlt : i' * te.sz + j < (madeCells z.cells (nc.toNat * i.size)).size := by rw [size_madeCells, ← hi4]; exact idx_lt (by omega) hj
        exact rel_replicate (n := nl.toNat) hrz hok hi' hj hlt (fun k hk => made_getD (by rwa [size_madeCells] at hk) (by omega)))
      (by simp only [execOp, ho, hlv, hcv, Sem.run_bind, hrunM, Result.andThen_ok, Sem.run_pure, hln])
    rwa [hln] at this
  · -- slice
    rename_i t a lo hi mx ho
    split at hf
    case h_2 => simp at hf
    split at hf
    case h_2 => simp at hf
    rename_i r hr
    simp only [Option.some.injEq, Prod.mk.injEq] at hf; obtain ⟨rfl, rfl⟩ := hf
    obtain ⟨u, hu, hru⟩ := absSlice_sound (P := P) hR (hρ a (by simp [ho, Op.operands])) (clo := lo.map ρc) (chi := hi.map ρc)
      (fun y hy => by
        cases lo with
        | none => simp at hy
        | some q => simp only [Option.map_some, Option.some.injEq] at hy; subst hy; exact ⟨_, rfl, hρ q (by simp [ho, Op.operands])⟩)
      (fun y hy => by
        cases hi with
        | none => simp at hy
        | some q => simp only [Option.map_some, Option.some.injEq] at hy; subst hy; exact ⟨_, rfl, hρ q (by simp [ho, Op.operands])⟩)
      (fun h => by cases lo with | none => rfl | some q => simp at h) (fun h => by cases hi with | none => rfl | some q => simp at h) hr
    exact .stay hR ⟨u, by simp [execOp, ho, hu], hru⟩
  · -- fieldAddr
    rename_i t a f ho
    split at hf
    case h_2 => simp at hf
    rename_i r hr
    simp only [Option.some.injEq, Prod.mk.injEq] at hf; obtain ⟨rfl, rfl⟩ := hf
    obtain ⟨u, hu, hru⟩ := absFieldAddr_sound (P := P) hR (hρ a (by simp [ho, Op.operands])) hr
    exact .stay hR ⟨u, by simp [execOp, ho, hu], hru⟩
  · -- field
    rename_i t a f ho
    split at hf
    case h_2 => simp at hf
    rename_i r hr
    simp only [Option.some.injEq, Prod.mk.injEq] at hf; obtain ⟨rfl, rfl⟩ := hf
    obtain ⟨u, hu, hru⟩ := absField_sound (P := P) (hρ a (by simp [ho, Op.operands])) hr
    exact .stay hR ⟨u, by simp [execOp, ho, hu], hru⟩
  · -- indexAddr
    rename_i t a ix ho
    split at hf
    case h_2 => simp at hf
    rename_i r hr
    simp only [Option.some.injEq, Prod.mk.injEq] at hf; obtain ⟨rfl, rfl⟩ := hf
    obtain ⟨u, hu, hru⟩ := absIndexAddr_sound (P := P) hR (hρ a (by simp [ho, Op.operands])) (hρ ix (by simp [ho, Op.operands])) hr
    exact .stay hR ⟨u, by simp [execOp, ho, hu], hru⟩
  · -- index
    rename_i t a ix ho
    split at hf
    case h_2 => simp at hf
    rename_i r hr
    simp only [Option.some.injEq, Prod.mk.injEq] at hf; obtain ⟨rfl, rfl⟩ := hf
    obtain ⟨u, hu, hru⟩ := absIndex_sound (P := P) (hρ a (by simp [ho, Op.operands])) (hρ ix (by simp [ho, Op.operands])) hr
    exact .stay hR ⟨u, by simp [execOp, ho, hu], hru⟩
  · -- extract
    rename_i a i ho
    split at hf
    case h_2 => simp at hf
    rename_i vs hvs
    split at hf
    case h_2 => simp at hf
    rename_i y hy
    simp only [Option.some.injEq, Prod.mk.injEq] at hf; obtain ⟨rfl, rfl⟩ := hf
    have ha := hρ a (by simp [ho, Op.operands])
    rw [hvs] at ha
    obtain ⟨us, hu, hs, hr⟩ := ha.tuple_inv
    have hlt : i < vs.length := by
      rcases Nat.lt_or_ge i vs.length with h' | h'
      · exact h'
      · simp [List.getElem?_eq_none h'] at hy
    have hlt' : i < us.size := by omega
    have := hr i hlt
    refine .stay hR ⟨us[i], by simp [execOp, ho, hu, Instr.extract, hlt'], ?_⟩
    simp only [List.getD_eq_getElem?_getD, hy, Option.getD_some] at this
    simpa [hlt'] using this
  · -- builtins
    rename_i c ho
    split at hf
    case h_2 => simp at hf
    rename_i b hcal
    have hargs : ∀ a, a ∈ c.args.toList → Rel w A M (ρc a) (ρ a) := fun a ha => hρ a (by simp [ho, Op.operands, Call.operands, hcal]; simpa using ha)
    have hm := map_rel (w := w) (A := A) (M := M) (l := c.args.toList) (ρc := ρc) (ρ := ρ) hargs
    split at hf
    · rename_i t ts y hts hys
      split at hf
      case h_2 => simp at hf
      rename_i r hr
      simp only [Option.some.injEq, Prod.mk.injEq] at hf; obtain ⟨rfl, rfl⟩ := hf
      have hcl : (c.args.toList.map ρc).length = 1 := by rw [hm.1, hys]; rfl
      have h0 := hm.2 0 (by rw [hys]; simp)
      rw [hys] at h0
      simp only [List.getD_cons_zero] at h0
      have hargc : ∃ v, c.args.map ρc = #[v] ∧ (c.args.toList.map ρc).getD 0 undef = v := by
        generalize hl : c.args.toList.map ρc = l at hcl
        match l, hcl with
        | [v], _ => exact ⟨v, by apply Array.ext'; simpa using hl, rfl⟩
      obtain ⟨v, hv1, hv2⟩ := hargc
      rw [hv2] at h0
      have hat : c.argTypes[0]? = some t := by rw [← Array.getElem?_toList, hts]; rfl
      obtain ⟨u, hu, hru⟩ := absLen_sound (P := P) (ty := o.type) hR hat h0 hr
      exact .stay hR ⟨u, by simp [execOp, ho, resolve, hcal, invoke, builtin, hv1, hu], hru⟩
    · rename_i y ys hys
      split at hf
      case h_2 => simp at hf
      rename_i r hr
      simp only [Option.some.injEq, Prod.mk.injEq] at hf; obtain ⟨rfl, rfl⟩ := hf
      generalize hl : c.args.toList.map ρc = l at hm
      rw [hys] at hm
      cases l with
      | nil => simp at hm
      | cons v vs =>
        have h0 := hm.2 0 (by simp)
        simp only [List.getD_cons_zero] at h0
        obtain ⟨u, hu, hru⟩ := absMin_sound (P := P) ys vs y _ v h0 (by simpa using hm.1) (fun i hi => by have := hm.2 (i + 1) (by simp; omega); simpa using this) hr
        exact .stay hR ⟨u, by simp [execOp, ho, resolve, hcal, invoke, builtin, Builtin.min_, hl, hu], hru⟩
    · rename_i y ys hys
      split at hf
      case h_2 => simp at hf
      rename_i r hr
      simp only [Option.some.injEq, Prod.mk.injEq] at hf; obtain ⟨rfl, rfl⟩ := hf
      generalize hl : c.args.toList.map ρc = l at hm
      rw [hys] at hm
      cases l with
      | nil => simp at hm
      | cons v vs =>
        have h0 := hm.2 0 (by simp)
        simp only [List.getD_cons_zero] at h0
        obtain ⟨u, hu, hru⟩ := absMax_sound (P := P) ys vs y _ v h0 (by simpa using hm.1) (fun i hi => by have := hm.2 (i + 1) (by simp; omega); simpa using this) hr
        exact .stay hR ⟨u, by simp [execOp, ho, resolve, hcal, invoke, builtin, Builtin.max_, hl, hu], hru⟩
    · simp at hf
  · simp at hf

end
end Go.Sim
