/- Addresses, slices, indexes, lengths: each abstract operation says what the model's does. -/
import Derived.Test.YtkoepgogaojgmaaDoorSimD
set_option linter.unusedVariables false
set_option linter.unusedSimpArgs false
set_option linter.unnecessarySimpa false
namespace Go.Sim
open Go.RowKit

section
variable {P : Program} {w : World} {A : Nat → Prop} {M : Nat → Option MB} {B : Nat} {H : List Box}

theorem tinfo_d {t : TypeId} {ti : TI} (h : tinfo P t = some ti) : P.underlying t = some ti.d := by
  obtain ⟨_, _, _, h2, _⟩ := tinfo_spec h; exact h2

theorem placesOf_run (w : World) : ∀ (fs : List Field) (pl : List (Nat × Nat)), placesOf P fs = some pl → fs.mapM (fun f => (P.info? f.type).map fun i => (f.offset, i.size)) = some pl
  | [], pl, h => by simp [placesOf] at h; simp [h]
  | f :: fs, pl, h => by
    unfold placesOf at h
    split at h
    · rename_i ti r hti hr
      simp only [Option.some.injEq] at h; subst h
      obtain ⟨i, z, h1, _, _, h3, _⟩ := tinfo_spec hti
      have ih := placesOf_run w fs r hr
      simp [List.mapM_cons, h1, ih, h3]
    · simp at h

theorem absBuild_sound {t : TypeId} {pa : List (Nat × AV)} {pc : Array (Nat × Value)} {r : AV} (hl : pc.toList.length = pa.length)
    (hp : ∀ i, i < pa.length → (pc.toList.getD i (0, undef)).1 = (pa.getD i (0, .top)).1 ∧ Rel w A M (pc.toList.getD i (0, undef)).2 (pa.getD i (0, .top)).2) (h : absBuild P t pa = some r) :
    ∃ v, (Instr.build t pc).run P w = .ok v w ∧ Rel w A M v r := by
  unfold absBuild at h
  split at h
  case h_2 => simp at h
  rename_i ti hti
  split at h
  case h_2 => simp at h
  rename_i fs z hd hz
  split at h
  case h_2 => simp at h
  rename_i pl hpl
  split at h
  case h_2 => simp at h
  rename_i cs hcs
  simp only [Option.some.injEq] at h; subst h
  obtain ⟨i, zc, h1, h2, h3, _, _, h4, _⟩ := tinfo_spec hti
  have hzr : Rel w A M zc (.agg z) := by rw [← hz, h4]; exact rel_avOf w A M zc
  obtain ⟨zs, rfl, hzs, hzr'⟩ := hzr.agg_inv
  have hrc : RC w A M zs.toList z := ⟨by simpa using hzs, fun i hi => by have := hzr' i hi; simpa [List.getD_eq_getElem?_getD, Array.getD_eq_getD_getElem?] using this⟩
  obtain ⟨c', hc1, hc2⟩ := absFill_sound (fun i => pl[i]?) pa pc.toList z cs zs hrc hl hp hcs
  refine ⟨.agg c', run_build w t pc c' ?_, .agg _ _ (by have := hc2.1; simpa using this) fun i hi => by have := hc2.2 i hi; simpa [List.getD_eq_getElem?_getD, Array.getD_eq_getD_getElem?] using this⟩
  unfold Program.built
  rw [hd] at h2
  simp only [h1, h2, h3, placesOf_run w fs.toList pl hpl]
  rw [← hc1]
  simp [Value.cells]

theorem bound_sound {len : Nat} {k : IntKind} {n : Int} (code : BoundsCode) (h : 0 ≤ n ∧ n ≤ (len : Int)) : (Instr.sliceBound (.int k n) len code).run P w = .ok n.toNat w := by
  simp [Instr.sliceBound, asIntOf, h.1, h.2]

theorem absB_sound {x : Option AV} {c : Option Value} {dflt len cap r : Nat} (hx : ∀ a, x = some a → ∃ v, c = some v ∧ Rel w A M v a) (nx : x = none → c = none) (hb : absB x dflt len = some r) (hcap : len ≤ cap) :
    (x = none ∧ c = none ∧ r = dflt) ∨ (∃ k n, c = some (.int k n) ∧ r = n.toNat ∧ r ≤ len ∧ ∀ code, (Instr.sliceBound (.int k n) cap code).run P w = .ok r w) := by
  cases x with
  | none => simp only [absB, Option.some.injEq] at hb; exact .inl ⟨rfl, nx rfl, hb.symm⟩
  | some a =>
    obtain ⟨v, rfl, hr⟩ := hx a rfl
    cases a with
    | int k n =>
      simp only [absB] at hb
      split at hb
      · rename_i hn
        simp only [Option.some.injEq] at hb
        have := hr.int_inv; subst this
        exact .inr ⟨k, n, rfl, hb.symm, by omega, fun code => by rw [← hb]; exact bound_sound code ⟨hn.1, by omega⟩⟩
      · simp at hb
    | _ => simp [absB] at hb

theorem absBounds_sound {lo hi : Option AV} {clo chi : Option Value} {len l h : Nat} (hlo : ∀ x, lo = some x → ∃ v, clo = some v ∧ Rel w A M v x) (hhi : ∀ x, hi = some x → ∃ v, chi = some v ∧ Rel w A M v x)
    (nlo : lo = none → clo = none) (nhi : hi = none → chi = none) (hb : absBounds lo hi len = some (l, h)) (isS : Bool) (cap : Nat) (hcap : len ≤ cap) :
    (Instr.sliceBounds isS len cap clo chi none).run P w = .ok (l, h, cap) w ∧ l ≤ h ∧ h ≤ len := by
  unfold absBounds at hb
  split at hb
  · simp at hb
  rename_i h' hh
  split at hb
  · simp at hb
  rename_i l' hl
  simp only [Option.some.injEq, Prod.mk.injEq] at hb
  obtain ⟨rfl, rfl⟩ := hb
  rcases absB_sound (P := P) hhi nhi hh hcap with ⟨rfl, rfl, rfl⟩ | ⟨k, n, rfl, _, hle, hrun⟩
  · rcases absB_sound (P := P) hlo nlo hl (Nat.le_refl _) with ⟨rfl, rfl, rfl⟩ | ⟨k', n', rfl, _, hle', hrun'⟩
    · exact ⟨by simp [Instr.sliceBounds], Nat.zero_le _, Nat.le_refl _⟩
    · exact ⟨by simp [Instr.sliceBounds, hrun'], hle', Nat.le_refl _⟩
  · rcases absB_sound (P := P) hlo nlo hl (Nat.le_refl _) with ⟨rfl, rfl, rfl⟩ | ⟨k', n', rfl, _, hle', hrun'⟩
    · exact ⟨by simp [Instr.sliceBounds, hrun], Nat.zero_le _, hle⟩
    · exact ⟨by simp [Instr.sliceBounds, hrun, hrun'], hle', hle⟩

theorem extract_data (s : ByteArray) (l h : Nat) : (s.extract l h).data.toList = (s.data.toList.drop l).take (h - l) := by
  rw [ByteArray.data_extract, Array.toList_extract, List.extract_eq_take_drop]

theorem absSlice_sound (hR : HR w A M B H) {t : TypeId} {v : Value} {x : AV} (hx : Rel w A M v x) {lo hi : Option AV} {clo chi : Option Value} {r : AV} (hlo : ∀ x, lo = some x → ∃ v, clo = some v ∧ Rel w A M v x) (hhi : ∀ x, hi = some x → ∃ v, chi = some v ∧ Rel w A M v x)
    (nlo : lo = none → clo = none) (nhi : hi = none → chi = none) (h : absSlice P H t x lo hi = some r) :
    ∃ u, (Instr.sliceAt t v clo chi none).run P w = .ok u w ∧ Rel w A M u r := by
  unfold absSlice at h
  split at h
  case h_2 => simp at h
  rename_i ti hti
  have hu := run_und hti w
  have hS : (∀ m e, ti.d ≠ .array m e) → (Instr.sliceAt t v clo chi none).run P w = (Instr.slice t v clo chi none).run P w := by
    intro hne
    simp only [Instr.sliceAt, Sem.run_bind, hu, Result.andThen_ok]
  split at h
  · rename_i s hd
    rw [hS (by rw [hd]; simp)]
    split at h
    case h_2 => simp at h
    rename_i l hh hb
    simp only [Option.some.injEq] at h; subst h
    obtain ⟨s', rfl, rfl⟩ := hx.str_inv
    rw [← size_data] at hb
    obtain ⟨h1, h2, h3⟩ := absBounds_sound (P := P) hlo hhi nlo nhi hb false s'.size (Nat.le_refl _)
    refine ⟨.string (s'.extract l hh), ?_, ?_⟩
    · simp only [Instr.slice, Sem.run_bind, hu, hd, Result.andThen_ok]
      simp [h1]
    · rw [← extract_data]; exact .str _
  · rename_i e sz xs hd
    rw [hS (by rw [hd]; simp)]
    split at h
    case h_2 => simp at h
    rename_i te hte
    split at h
    case isFalse => simp at h
    rename_i hsz
    split at h
    case h_2 => simp at h
    rename_i l hh hb
    simp only [Option.some.injEq] at h; subst h
    have hse := run_size hte w
    cases hx with
    | list0 a cap _ =>
      have hb0 : l = 0 ∧ hh = 0 := by
        obtain ⟨_, h2, h3⟩ := absBounds_sound (P := P) hlo hhi nlo nhi hb true 0 (Nat.le_refl _)
        simp at h3
        omega
      obtain ⟨h1, h2, h3⟩ := absBounds_sound (P := P) hlo hhi nlo nhi hb true cap (Nat.zero_le _)
      obtain ⟨rfl, rfl⟩ := hb0
      have e : List.take (0 - 0) (List.drop 0 ([] : List AV)) = [] := rfl
      rw [e]
      exact ⟨.slice (if cap = 0 then a else a.map (·.add (0 * te.sz))) (0 - 0) (cap - 0), by
        simp only [List.length_nil] at h1
        simp only [Instr.slice, Sem.run_bind, hu, hd, Result.andThen_ok, h1, hse, Sem.run_pure], .list0 _ _ _⟩
    | list b off cap _ _ val ha hbl hne hcap hok hc hr =>
      obtain ⟨h0, h2, h3⟩ := absBounds_sound (P := P) hlo hhi nlo nhi hb true xs.length (Nat.le_refl _)
      obtain ⟨h1, _, _⟩ := absBounds_sound (P := P) hlo hhi nlo nhi hb true cap hcap
      refine ⟨.slice (if cap = l then some ⟨b, off, none⟩ else some (Addr.add ⟨b, off, none⟩ (l * te.sz))) (hh - l) (cap - l), by
        simp only [Instr.slice, Sem.run_bind, hu, hd, Result.andThen_ok, h1, hse, Sem.run_pure, Option.map_some], ?_⟩
      by_cases hz : hh - l = 0
      · have e : List.take (hh - l) (List.drop l xs) = [] := by rw [hz]; rfl
        rw [e, hz]
        exact .list0 _ _ _
      · rw [if_neg (by omega), addr_add]
        have hlen : ((xs.drop l).take (hh - l)).length = hh - l := by simp; omega
        have hg : ∀ i, i < hh - l → ((xs.drop l).take (hh - l)).getD i .top = xs.getD (l + i) .top := by
          intro i hi
          simp [List.getD_eq_getElem?_getD, List.getElem?_take, hi, List.getElem?_drop]
        have := Rel.list (w := w) (A := A) (M := M) b (off + l * te.sz) (cap - l) sz ((xs.drop l).take (hh - l)) (fun i j => val (l + i) j) ha hbl (by intro e; rw [e] at hlen; simp at hlen; omega) (by rw [hlen]; omega)
          (fun x hx => hok x (List.mem_of_mem_drop (List.mem_of_mem_take hx)))
          (fun i j hi hj => by
            rw [hlen] at hi
            have := hc (l + i) j (by omega) hj
            rw [hsz]
            rw [show off + l * sz + i * sz + j = off + (l + i) * sz + j by rw [Nat.add_mul]; omega]
            exact this)
          (fun i j hi hj => by
            rw [hlen] at hi
            rw [hg i hi]
            exact hr (l + i) j (by omega) hj)
        rw [hlen] at this
        exact this
  · rename_i e hd
    rw [hS (by rw [hd]; simp)]
    split at h
    case h_2 => simp at h
    rename_i te hte
    split at h
    case h_2 => simp at h
    rename_i bd hb
    obtain ⟨l, hh⟩ := bd
    simp only [Option.some.injEq] at h; subst h
    cases hx
    obtain ⟨h1, h2, h3⟩ := absBounds_sound (P := P) hlo hhi nlo nhi hb true 0 (Nat.le_refl _)
    have : l = 0 ∧ hh = 0 := by omega
    obtain ⟨rfl, rfl⟩ := this
    exact ⟨.slice none 0 0, by simp [Instr.slice, hu, hd, h1, run_size hte], .nils⟩
  · rename_i e id ver off len hd
    rw [hS (by rw [hd]; simp)]
    split at h
    case h_2 => simp at h
    rename_i te bx hte hbx
    split at h
    case isFalse => simp at h
    rename_i hsz
    split at h
    case h_2 => simp at h
    rename_i l hh hb
    simp only [Option.some.injEq] at h; subst h
    have hx' := hx
    obtain ⟨m, a, hm, hbat, hfit, rfl, ha⟩ := osl_at hR hx hbx
    have hsm : te.sz = m.sz := by rw [hsz, hbat.sz]
    obtain ⟨h1, h2, h3⟩ := absBounds_sound (P := P) hlo hhi nlo nhi hb true (m.cap - off) (by omega)
    refine ⟨.slice (if m.cap - off = l then some a else some (a.add (l * te.sz))) (hh - l) (m.cap - off - l), by
      simp only [Instr.slice, Sem.run_bind, hu, hd, Result.andThen_ok, h1, run_size hte, Sem.run_pure, Option.map_some], ?_⟩
    cases hx' with
    | osl _ _ _ _ _ m' hm' hv _ _ =>
      rw [hm] at hm'
      simp only [Option.some.injEq] at hm'
      subst hm'
      refine .osl _ id ver (off + l) (hh - l) m hm hv rfl fun _ => ⟨by omega, ?_⟩
      by_cases hz : m.cap - off = l
      · refine ⟨a, by rw [if_pos hz, show m.cap - off - l = m.cap - (off + l) by omega], fun hor => ?_⟩
        have : off + l = 0 := by omega
        have h0 : off = 0 := by omega
        have hl0 : l = 0 := by omega
        rw [ha (.inr h0), h0, hl0]
      · refine ⟨a.add (l * te.sz), by rw [if_neg hz, show m.cap - off - l = m.cap - (off + l) by omega], fun hor => ?_⟩
        rw [ha (.inl (by omega)), addr_add, hsm, Nat.add_mul]
  · simp at h

end
end Go.Sim
