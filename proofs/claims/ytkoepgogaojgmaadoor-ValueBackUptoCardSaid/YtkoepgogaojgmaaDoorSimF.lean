/- The rest of the operations that write nothing; new boxes; and all of them together: 'fop_sound'. -/
import Derived.Test.YtkoepgogaojgmaaDoorSimE
set_option linter.unusedVariables false
set_option linter.unusedSimpArgs false
set_option linter.unnecessarySimpa false
namespace Go.Sim
open Go.RowKit

section
variable {P : Program} {w : World} {A : Nat → Prop} {M : Nat → Option MB} {B : Nat} {H : List Box}

/-- An address within an element, moved on. -/
theorem eptr_move {v : Value} {sz : Nat} {xs : List AV} {i j : Nat} (h : Rel w A M v (.eptr sz xs i j)) : ∃ b o, v = .pointer (some ⟨b, o, none⟩) ∧ ∀ n, Rel w A M (.pointer (some ⟨b, o + n, none⟩)) (.eptr sz xs i (j + n)) := by
  cases h with
  | eptr b off _ _ _ _ val ha hb hi hsz hc hr =>
    refine ⟨b, off + i * sz + j, rfl, fun n => ?_⟩
    rw [Nat.add_assoc]
    exact .eptr b off sz xs i (j + n) val ha hb hi hsz hc hr

theorem Rel.own_inv {v : Value} {id ver i j : Nat} (h : Rel w A M v (.own id ver i j)) : ∃ m, M id = some m ∧ ver ≤ m.ver ∧ v.oneCell' = true ∧ (ver = m.ver → v = .pointer (some ⟨m.b, i * m.sz + j, none⟩)) := by
  generalize hx : AV.own id ver i j = x at h
  cases h <;> simp at hx
  obtain ⟨rfl, rfl, rfl, rfl⟩ := hx
  exact ⟨_, by assumption, by assumption, by assumption, by assumption⟩

theorem own_move (hR : HR w A M B H) {v : Value} {id ver i j : Nat} {bx : Box} (h : Rel w A M v (.own id ver i j)) (hb : getBox H id ver = some bx) :
    ∃ b o, v = .pointer (some ⟨b, o, none⟩) ∧ ∀ n, Rel w A M (.pointer (some ⟨b, o + n, none⟩)) (.own id ver i (j + n)) := by
  obtain ⟨m, hm, hbat, rfl⟩ := own_at hR h hb
  refine ⟨m.b, i * m.sz + j, rfl, fun n => ?_⟩
  obtain ⟨m', hm', hv, _⟩ := h.own_inv
  rw [hm] at hm'
  simp only [Option.some.injEq] at hm'
  subst hm'
  exact .own _ id ver i (j + n) m hm hv rfl fun _ => by rw [Nat.add_assoc]

theorem absFieldAddr_sound (hR : HR w A M B H) {t : TypeId} {v : Value} {x r : AV} {f : Nat} (hx : Rel w A M v x) (h : absFieldAddr P H t x f = some r) :
    ∃ u, (Instr.fieldAt t v f).run P w = .ok u w ∧ Rel w A M u r := by
  unfold absFieldAddr at h
  split at h
  case h_2 => simp at h
  rename_i ti hti
  split at h
  case h_2 => simp at h
  rename_i fs hd
  split at h
  case h_2 => simp at h
  rename_i fd hfd
  split at h
  case h_2 => simp at h
  rename_i tf htf
  split at h
  · simp at h
  rename_i hsz
  have hrun : ∀ b o, (Instr.fieldAt t (.pointer (some ⟨b, o, none⟩)) f).run P w = .ok (.pointer (some ⟨b, o + fd.offset, none⟩)) w := by
    intro b o
    simp [Instr.fieldAt, run_und hti, hd, hfd, Instr.sureAddr, fieldPlace, run_size htf, hsz, addr_add]
  split at h
  · simp only [Option.some.injEq] at h; subst h
    obtain ⟨b, o, rfl, hm⟩ := eptr_move hx
    exact ⟨_, hrun b o, hm _⟩
  · split at h
    case h_2 => simp at h
    rename_i bx hbx
    simp only [Option.some.injEq] at h; subst h
    obtain ⟨b, o, rfl, hm⟩ := own_move hR hx hbx
    exact ⟨_, hrun b o, hm _⟩
  · simp at h

theorem absIndexAddr_sound (hR : HR w A M B H) {t : TypeId} {v vi : Value} {x ix r : AV} (hx : Rel w A M v x) (hix : Rel w A M vi ix) (h : absIndexAddr P H t x ix = some r) :
    ∃ u, (Instr.indexAt t v vi).run P w = .ok u w ∧ Rel w A M u r := by
  unfold absIndexAddr at h
  split at h
  case h_2 => simp at h
  rename_i ti k n hti
  have := hix.int_inv; subst this
  have hu := run_und hti w
  split at h
  · rename_i e sz xs hd
    split at h
    case h_2 => simp at h
    rename_i te hte
    split at h
    case isFalse => simp at h
    rename_i hc0
    obtain ⟨hsz, h0, hn⟩ := hc0
    simp only [Option.some.injEq] at h; subst h
    cases hx with
    | list0 a cap _ => simp at hn; omega
    | list b off cap _ _ val ha hbl hne hcap hok hc hr =>
      refine ⟨.pointer (some ⟨b, off + n.toNat * sz + 0, none⟩), ?_, .eptr b off sz xs n.toNat 0 val ha hbl (by omega) hok hc hr⟩
      simp [Instr.indexAt, asIntOf, hu, hd, h0, hn, run_size hte, addr_add, hsz]
  · rename_i e id ver off len hd
    split at h
    case h_2 => simp at h
    rename_i te bx hte hbx
    split at h
    case isFalse => simp at h
    rename_i hc0
    obtain ⟨hsz, h0, hn⟩ := hc0
    simp only [Option.some.injEq] at h; subst h
    have hx' := hx
    obtain ⟨m, a, hm, hbat, hfit, rfl, ha⟩ := osl_at hR hx hbx
    have hsm : te.sz = m.sz := by rw [hsz, hbat.sz]
    have haa := ha (.inl (by omega)); subst haa
    refine ⟨.pointer (some ⟨m.b, off * m.sz + n.toNat * te.sz, none⟩), ?_, ?_⟩
    · simp [Instr.indexAt, asIntOf, hu, hd, h0, hn, run_size hte, addr_add]
    · cases hx' with
      | osl _ _ _ _ _ m' hm' hv _ _ =>
        rw [hm] at hm'
        simp only [Option.some.injEq] at hm'
        subst hm'
        exact .own _ id ver (off + n.toNat) 0 m hm hv rfl fun _ => by rw [hsm, Nat.add_mul, Nat.add_zero]
  · rename_i mm e id ver i j hd
    split at h
    case h_2 => simp at h
    rename_i te bx hte hbx
    split at h
    case isFalse => simp at h
    rename_i hc0
    obtain ⟨h0, hn⟩ := hc0
    simp only [Option.some.injEq] at h; subst h
    obtain ⟨b, o, rfl, hm⟩ := own_move hR hx hbx
    exact ⟨_, by simp [Instr.indexAt, asIntOf, hu, hd, h0, hn, run_size hte, addr_add, Instr.sureAddr], hm _⟩
  · rename_i mm e sz xs i j hd
    split at h
    case h_2 => simp at h
    rename_i te hte
    split at h
    case isFalse => simp at h
    rename_i hc0
    obtain ⟨h0, hn⟩ := hc0
    simp only [Option.some.injEq] at h; subst h
    obtain ⟨b, o, rfl, hm⟩ := eptr_move hx
    exact ⟨_, by simp [Instr.indexAt, asIntOf, hu, hd, h0, hn, run_size hte, addr_add, Instr.sureAddr], hm _⟩
  · simp at h

theorem absPart_sound {t : TypeId} {ti : TI} (hti : tinfo P t = some ti) {vs : Array Value} {cs : List AV} (hs : vs.size = cs.length) (hr : ∀ i, i < cs.length → Rel w A M (vs.getD i undef) (cs.getD i .top)) {off : Nat} {r : AV} (h : absPart ti cs off = some r) :
    ∃ u, (part t vs off).run P w = .ok u w ∧ Rel w A M u r := by
  unfold absPart at h
  split at h
  · rename_i ha
    split at h
    case isFalse => simp at h
    rename_i hle
    simp only [Option.some.injEq] at h; subst h
    refine ⟨.agg (vs.extract off (off + ti.sz)), by simp [part, run_agg hti, ha, run_size hti], .agg _ _ (by simp; omega) fun i hi => ?_⟩
    have hi' : i < ti.sz := by simp at hi; omega
    have e1 : (vs.extract off (off + ti.sz)).getD i undef = vs.getD (off + i) undef := by
      have : off + i < vs.size := by omega
      simp [Array.getD_eq_getD_getElem?, Array.getElem?_extract, show i < min (off + ti.sz) vs.size - off by omega, this]
    have e2 : ((cs.drop off).take ti.sz).getD i .top = cs.getD (off + i) .top := by simp [List.getD_eq_getElem?_getD, List.getElem?_take, hi', List.getElem?_drop]
    rw [e1, e2]
    exact hr _ (by omega)
  · rename_i ha
    split at h
    case isFalse => simp at h
    rename_i hlt
    simp only [Option.some.injEq] at h; subst h
    have hlt' : off < vs.size := by omega
    have := hr off hlt
    exact ⟨vs[off], by simp [part, run_agg hti, ha, hlt'], by simpa [hlt'] using this⟩

theorem absField_sound {t : TypeId} {v : Value} {x r : AV} {f : Nat} (hx : Rel w A M v x) (h : absField P t x f = some r) :
    ∃ u, (Instr.field t v f).run P w = .ok u w ∧ Rel w A M u r := by
  unfold absField at h
  split at h
  case h_2 => simp at h
  rename_i ti cs hti
  split at h
  case h_2 => simp at h
  rename_i fs hd
  split at h
  case h_2 => simp at h
  rename_i fd hfd
  split at h
  case h_2 => simp at h
  rename_i tf htf
  obtain ⟨vs, rfl, hs, hr⟩ := hx.agg_inv
  obtain ⟨u, hu, hru⟩ := absPart_sound htf hs hr h
  exact ⟨u, by simp [Instr.field, run_und hti, hd, hfd, asAgg, hu], hru⟩

theorem absIndex_sound {t : TypeId} {v vi : Value} {x ix r : AV} (hx : Rel w A M v x) (hix : Rel w A M vi ix) (h : absIndex P t x ix = some r) :
    ∃ u, (Instr.index t v vi).run P w = .ok u w ∧ Rel w A M u r := by
  unfold absIndex at h
  split at h
  case h_2 => simp at h
  rename_i ti k n hti
  have := hix.int_inv; subst this
  have hu := run_und hti w
  split at h
  · rename_i s hd
    split at h
    case isFalse => simp at h
    rename_i hn
    simp only [Option.some.injEq] at h; subst h
    obtain ⟨s', rfl, rfl⟩ := hx.str_inv
    have hlt : n.toNat < s'.size := by rw [size_data]; omega
    have hlt' : n.toNat < s'.data.size := hlt
    have e : s'[n.toNat]? = some s'[n.toNat] := by simp [hlt]
    have e2 : s'.data.toList.getD n.toNat 0 = s'[n.toNat] := by
      rw [List.getD_eq_getElem?_getD, Array.getElem?_toList, Array.getElem?_eq_getElem hlt']; rfl
    refine ⟨.int .u8 (s'[n.toNat]).toNat, by simp [Instr.index, asIntOf, hu, hd, hn.1, e], ?_⟩
    rw [e2]
    exact .int _ _
  · rename_i m e cs hd
    split at h
    case h_2 => simp at h
    rename_i te hte
    split at h
    case isFalse => simp at h
    rename_i hn
    obtain ⟨vs, rfl, hs, hr⟩ := hx.agg_inv
    obtain ⟨u, huu, hru⟩ := absPart_sound hte hs hr h
    exact ⟨u, by simp [Instr.index, asIntOf, hu, hd, hn.1, hn.2, run_size hte, huu], hru⟩
  · simp at h

theorem absLen_sound (hR : HR w A M B H) {t ty : TypeId} {ats : Array TypeId} {v : Value} {x r : AV} (hats : ats[0]? = some t) (hx : Rel w A M v x) (h : absLen P H t x = some r) :
    ∃ u, (Builtin.len_ ats ty #[v]).run P w = .ok u w ∧ Rel w A M u r := by
  unfold absLen at h
  split at h
  case h_2 => simp at h
  rename_i ti hti
  have hu := run_und hti w
  split at h
  · rename_i s hd
    simp only [Option.some.injEq] at h; subst h
    obtain ⟨s', rfl, rfl⟩ := hx.str_inv
    exact ⟨.int .i64 s'.size, by simp [Builtin.len_, hats, hu, hd, goInt], by rw [size_data]; exact .int _ _⟩
  · rename_i e sz xs hd
    simp only [Option.some.injEq] at h; subst h
    cases hx with
    | list0 a cap _ => exact ⟨.int .i64 0, by simp [Builtin.len_, hats, hu, hd, goInt], .int _ _⟩
    | list b off cap _ _ val ha hbl hne hcap hok hc hr => exact ⟨.int .i64 xs.length, by simp [Builtin.len_, hats, hu, hd, goInt], .int _ _⟩
  · rename_i e hd
    simp only [Option.some.injEq] at h; subst h
    cases hx
    exact ⟨.int .i64 0, by simp [Builtin.len_, hats, hu, hd, goInt], .int _ _⟩
  · rename_i e id ver off len hd
    split at h
    case h_2 => simp at h
    rename_i bx hbx
    simp only [Option.some.injEq] at h; subst h
    obtain ⟨m, a, hm, hbat, hfit, rfl, ha⟩ := osl_at hR hx hbx
    exact ⟨.int .i64 len, by simp [Builtin.len_, hats, hu, hd, goInt], .int _ _⟩
  · simp at h

theorem absMin_sound : ∀ (xs : List AV) (vs : List Value) (x r : AV) (v : Value), Rel w A M v x → vs.length = xs.length → (∀ i, i < xs.length → Rel w A M (vs.getD i undef) (xs.getD i .top)) → absMin x xs = some r →
    ∃ u, (vs.foldlM Builtin.min2 v).run P w = .ok u w ∧ Rel w A M u r
  | [], vs, x, r, v, hx, hl, hr, h => by
    have : vs = [] := by simpa using hl
    subst this
    unfold absMin at h
    simp only [Option.some.injEq] at h; subst h
    exact ⟨v, by simp, hx⟩
  | y :: xs, vs, x, r, v, hx, hl, hr, h => by
    cases vs with
    | nil => simp at hl
    | cons u vs =>
      have h0 := hr 0 (by simp)
      simp only [List.getD_cons_zero] at h0
      unfold absMin at h
      split at h
      · rename_i heq; simp at heq
      · rename_i k a k' b rest heq
        simp only [List.cons.injEq] at heq
        obtain ⟨rfl, rfl⟩ := heq
        have := hx.int_inv; subst this
        have := h0.int_inv; subst this
        obtain ⟨z, hz, hrz⟩ := absMin_sound xs vs (.int k (if b < a then b else a)) r (.int k (if b < a then b else a)) (.int _ _) (by simpa using hl) (fun i hi => by have := hr (i + 1) (by simp; omega); simpa using this) h
        exact ⟨z, by simp [List.foldlM_cons, Builtin.min2, hz], hrz⟩
      · simp at h

theorem absMax_sound : ∀ (xs : List AV) (vs : List Value) (x r : AV) (v : Value), Rel w A M v x → vs.length = xs.length → (∀ i, i < xs.length → Rel w A M (vs.getD i undef) (xs.getD i .top)) → absMax x xs = some r →
    ∃ u, (vs.foldlM Builtin.max2 v).run P w = .ok u w ∧ Rel w A M u r
  | [], vs, x, r, v, hx, hl, hr, h => by
    have : vs = [] := by simpa using hl
    subst this
    unfold absMax at h
    simp only [Option.some.injEq] at h; subst h
    exact ⟨v, by simp, hx⟩
  | y :: xs, vs, x, r, v, hx, hl, hr, h => by
    cases vs with
    | nil => simp at hl
    | cons u vs =>
      have h0 := hr 0 (by simp)
      simp only [List.getD_cons_zero] at h0
      unfold absMax at h
      split at h
      · rename_i heq; simp at heq
      · rename_i k a k' b rest heq
        simp only [List.cons.injEq] at heq
        obtain ⟨rfl, rfl⟩ := heq
        have := hx.int_inv; subst this
        have := h0.int_inv; subst this
        obtain ⟨z, hz, hrz⟩ := absMax_sound xs vs (.int k (if b > a then b else a)) r (.int k (if b > a then b else a)) (.int _ _) (by simpa using hl) (fun i hi => by have := hr (i + 1) (by simp; omega); simpa using this) h
        exact ⟨z, by simp [List.foldlM_cons, Builtin.max2, hz], hrz⟩
      · simp at h

theorem absUn_sound {op : UnOp} {v : Value} {x r : AV} (hx : Rel w A M v x) (h : absUn op x = some r) : ∃ u, (Op.unary op v).run P w = .ok u w ∧ Rel w A M u r := by
  unfold absUn at h
  split at h
  · simp only [Option.some.injEq] at h; subst h
    have := hx.bool_inv; subst this
    exact ⟨_, by simp [Op.unary], .bool _⟩
  · simp only [Option.some.injEq] at h; subst h
    have := hx.int_inv; subst this
    exact ⟨_, by simp [Op.unary, Op.intArith], .int _ _⟩
  · simp at h

theorem absConv_sound {s d : TypeId} {v : Value} {x r : AV} (hx : Rel w A M v x) (h : absConv P s d x = some r) : ∃ u, (convert s d v).run P w = .ok u w ∧ Rel w A M u r := by
  unfold absConv at h
  split at h
  case h_2 => simp at h
  rename_i ts td hs hd
  have hus := run_und hs w
  have hud := run_und hd w
  split at h
  · rename_i k k' n hk
    simp only [Option.some.injEq] at h; subst h
    have := hx.int_inv; subst this
    exact ⟨.int k (k.wrap n), by simp [convert, hus, hud, hk, Conv.intToInt], .int _ _⟩
  · rename_i l hk
    simp only [Option.some.injEq] at h; subst h
    obtain ⟨s', rfl, rfl⟩ := hx.str_inv
    exact ⟨.string s', by cases hss : ts.d <;> simp [convert, hus, hud, hk, hss], .str _⟩
  · simp at h

end
end Go.Sim
