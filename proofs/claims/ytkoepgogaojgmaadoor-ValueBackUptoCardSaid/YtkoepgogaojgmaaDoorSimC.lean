/- Each abstract operation says what the model's operation does: reading, arithmetic, strings, addresses. -/
import Derived.Test.YtkoepgogaojgmaaDoorSimB
set_option linter.unusedVariables false
set_option linter.unusedSimpArgs false
set_option linter.unnecessarySimpa false
namespace Go.Sim
open Go.RowKit

theorem addr_add (b o n : Nat) : (⟨b, o, none⟩ : Addr).add n = ⟨b, o + n, none⟩ := by
  unfold Addr.add; split <;> simp_all

section
variable {P : Program} {w : World} {A : Nat → Prop} {M : Nat → Option MB} {B : Nat} {H : List Box}

theorem getBox_some {id ver : Nat} {bx : Box} (h : getBox H id ver = some bx) : H[id]? = some bx ∧ bx.ver = ver := by
  unfold getBox at h
  split at h
  · split at h
    · simp only [Option.some.injEq] at h; subst h; exact ⟨by assumption, by assumption⟩
    · simp at h
  · simp at h

/-- A pointer into a box that is as young as the box: where it points. -/
theorem own_at (hR : HR w A M B H) {v : Value} {id ver i j : Nat} {bx : Box} (h : Rel w A M v (.own id ver i j)) (hb : getBox H id ver = some bx) :
    ∃ m, M id = some m ∧ BoxAt w A M B m bx ∧ v = .pointer (some ⟨m.b, i * m.sz + j, none⟩) := by
  obtain ⟨hb1, hb2⟩ := getBox_some hb
  cases h with
  | own _ _ _ _ _ m hm hv h1 he =>
    obtain ⟨bx', h2, h3⟩ := hR.box id m hm
    rw [hb1] at h2
    simp only [Option.some.injEq] at h2
    subst h2
    exact ⟨m, hm, h3, he (by rw [← hb2, h3.ver])⟩

theorem osl_at (hR : HR w A M B H) {v : Value} {id ver off len : Nat} {bx : Box} (h : Rel w A M v (.osl id ver off len)) (hb : getBox H id ver = some bx) :
    ∃ m a, M id = some m ∧ BoxAt w A M B m bx ∧ off + len ≤ m.cap ∧ v = .slice (some a) len (m.cap - off) ∧ (off < m.cap ∨ off = 0 → a = ⟨m.b, off * m.sz, none⟩) := by
  obtain ⟨hb1, hb2⟩ := getBox_some hb
  cases h with
  | osl _ _ _ _ _ m hm hv h1 he =>
    obtain ⟨bx', h2, h3⟩ := hR.box id m hm
    rw [hb1] at h2
    simp only [Option.some.injEq] at h2
    subst h2
    obtain ⟨h4, a, h5, h6⟩ := he (by rw [← hb2, h3.ver])
    exact ⟨m, a, hm, h3, h4, h5, h6⟩

/-- The cells of a box. -/
theorem BoxAt.cell {m : MB} {bx : Box} (h : BoxAt w A M B m bx) {i j : Nat} (hi : i < bx.xs.length) (hj : j < m.sz) :
    ∃ v, w.cell? ⟨m.b, i * m.sz + j, none⟩ = some v ∧ Rel w A M v ((bx.xs.getD i .top).cells.getD j .top) := by
  obtain ⟨c, h1, h2, h3⟩ := h.cells
  have hk : i * m.sz + j < c.size := by
    rw [h2]
    have : (i + 1) * m.sz ≤ m.cap * m.sz := Nat.mul_le_mul_right _ (Nat.le_trans hi h.fits)
    rw [Nat.add_mul, Nat.one_mul] at this
    omega
  refine ⟨c.getD (i * m.sz + j) undef, ?_, h3 i j hi hj⟩
  simp [World.cell?, h1, hk]

/-- Loading 'ti.sz' cells. -/
theorem load_sound {t : TypeId} {ti : TI} (ht : tinfo P t = some ti) {b o : Nat} {cs : List AV} {sz j : Nat} {x r : AV} (hxs : x.cells.length = sz)
    (hc : ∀ j, j < sz → ∃ v, w.cell? ⟨b, o + j, none⟩ = some v ∧ Rel w A M v (x.cells.getD j .top)) (h : absLoad ti sz x j = some r) :
    ∃ v, (Instr.loadAt t (.pointer (some ⟨b, o + j, none⟩))).run P w = .ok v w ∧ Rel w A M v r := by
  unfold absLoad at h
  split at h
  case isFalse => simp at h
  rename_i hle
  split at h
  · rename_i ha
    simp only [Option.some.injEq] at h
    subst h
    have hrun := run_loadCells (P := P) w ⟨b, o + j, none⟩ ti.sz (fun k => (w.cell? ⟨b, o + (j + k), none⟩).getD undef) (fun k hk => by
      obtain ⟨v, hv, _⟩ := hc (j + k) (by omega)
      rw [addr_add, Nat.add_assoc, hv]; rfl)
    refine ⟨_, by simp [Instr.loadAt, Instr.sureAddr, loadVar, run_agg ht, ha, run_size ht, hrun]; rfl, ?_⟩
    refine .agg _ _ (by simp; omega) fun i hi => ?_
    have hi' : i < ti.sz := by simp at hi; omega
    obtain ⟨v, hv, hr⟩ := hc (j + i) (by omega)
    have e1 : (((List.range ti.sz).map fun k => (w.cell? ⟨b, o + (j + k), none⟩).getD undef).toArray).getD i undef = v := by
      simp [hi', hv]
    have e2 : ((x.cells.drop j).take ti.sz).getD i .top = x.cells.getD (j + i) .top := by
      simp [List.getD_eq_getElem?_getD, List.getElem?_take, hi', List.getElem?_drop]
    rw [e1, e2]; exact hr
  · rename_i ha
    split at h
    · rename_i h1
      simp only [Option.some.injEq] at h
      subst h
      obtain ⟨v, hv, hr⟩ := hc j (by omega)
      exact ⟨v, by simp [Instr.loadAt, Instr.sureAddr, loadVar, run_agg ht, ha, hv], hr⟩
    · simp at h

theorem okElem_len {sz : Nat} {x : AV} (h : x.okElem sz = true) : x.cells.length = sz := by
  simp [AV.okElem] at h; exact h.1

theorem okElem_one {sz : Nat} {x : AV} (h : x.okElem sz = true) : x.cells.all AV.one = true := by
  simp [AV.okElem] at h; simpa using h.2

theorem loadAt_sound {t : TypeId} {ti : TI} (ht : tinfo P t = some ti) (hR : HR w A M B H) {v : Value} {x r : AV} (hv : Rel w A M v x) (h : absLoadAt H ti x = some r) :
    ∃ u, (Instr.loadAt t v).run P w = .ok u w ∧ Rel w A M u r := by
  unfold absLoadAt at h
  split at h
  · rename_i sz xs i j
    split at h
    case h_2 => simp at h
    rename_i e he
    cases hv with
    | eptr b off _ _ _ _ val ha hb hi hsz hc hr =>
      have hmem : e ∈ xs := List.mem_of_getElem? he
      have hg : xs.getD i .top = e := by simp [List.getD_eq_getElem?_getD, he]
      refine load_sound ht (b := b) (o := off + i * sz) (cs := []) (okElem_len (hsz e hmem)) (fun k hk => ⟨val i k, hc i k hi hk, ?_⟩) h
      have := hr i k hi hk
      rwa [hg] at this
  · rename_i id ver i j
    split at h
    case h_2 => simp at h
    rename_i bx hbx
    split at h
    case h_2 => simp at h
    rename_i e he
    obtain ⟨m, hm, hbat, rfl⟩ := own_at hR hv hbx
    have hi : i < bx.xs.length := by
      rcases Nat.lt_or_ge i bx.xs.length with h' | h'
      · exact h'
      · simp [List.getElem?_eq_none h'] at he
    have hg : bx.xs.getD i .top = e := by simp [List.getD_eq_getElem?_getD, he]
    rw [hbat.sz] at h
    refine load_sound ht (b := m.b) (o := i * m.sz) (cs := []) (okElem_len (hbat.ok e (List.mem_of_getElem? he))) (fun k hk => ?_) h
    have := hbat.cell hi hk
    rwa [hg] at this
  · simp at h

/-! ### Arithmetic, comparisons -/

theorem bytes_toList (s : ByteArray) : s.toList = s.data.toList := ByteArray.toList_eq s

theorem size_data (s : ByteArray) : s.size = s.data.toList.length := by rw [Array.length_toList]; rfl

theorem eqSK_int {a b : AV} {r : Bool} (h : eqSK .int a b = some r) : ∃ k n m, a = .int k n ∧ b = .int k m ∧ r = (n == m) := by
  cases a <;> cases b <;> simp [eqSK] at h
  obtain ⟨rfl, h⟩ := h
  exact ⟨_, _, _, rfl, rfl, h.symm⟩
theorem eqSK_str {a b : AV} {r : Bool} (h : eqSK .str a b = some r) : ∃ n m, a = .str n ∧ b = .str m ∧ r = (n == m) := by
  cases a <;> cases b <;> simp [eqSK] at h
  exact ⟨_, _, rfl, rfl, h.symm⟩
theorem eqSK_bool {a b : AV} {r : Bool} (h : eqSK .bool a b = some r) : ∃ n m, a = .bool n ∧ b = .bool m ∧ r = (n == m) := by
  cases a <;> cases b <;> simp [eqSK] at h
  exact ⟨_, _, rfl, rfl, h.symm⟩

theorem planF_run (d : Nat) (xs ys : Array Value) : ∀ (fs : List Field) (pl : List (Nat × SK)) (as bs : List AV) (r : Bool), planF P fs = some pl → eqCells pl as bs = some r →
    xs.size = as.length → ys.size = bs.length →
    (∀ i, i < as.length → Rel w A M (xs.getD i undef) (as.getD i .top)) → (∀ i, i < bs.length → Rel w A M (ys.getD i undef) (bs.getD i .top)) →
    (Op.eqFields (d + 1) xs ys fs).run P w = .ok r w
  | [], pl, as, bs, r, hp, he, _, _, _, _ => by
    simp only [planF, Option.some.injEq] at hp
    subst hp
    simp only [eqCells, Option.some.injEq] at he
    subst he
    simp [Op.eqFields]
  | f :: fs, pl, as, bs, r, hp, he, hxs, hys, hx, hy => by
    unfold planF at hp
    split at hp
    · simp at hp
    rename_i hname
    split at hp
    case h_2 => simp at hp
    rename_i ti rest hti hrest
    have key : ∀ (s : SK), eqCells ((f.offset, s) :: rest) as bs = some r → ∃ a b r1 r2, as.getD f.offset .top = a ∧ bs.getD f.offset .top = b ∧ eqSK s a b = some r1 ∧ eqCells rest as bs = some r2 ∧ r = (r1 && r2) := by
      intro s hs
      unfold eqCells at hs
      split at hs
      · rename_i r1 r2 h1 h2
        simp only [Option.some.injEq] at hs
        exact ⟨_, _, r1, r2, rfl, rfl, h1, h2, hs.symm⟩
      · simp at hs
    have fin : ∀ (u v : Value) (r1 r2 : Bool), ti.agg = false → xs[f.offset]? = some u → ys[f.offset]? = some v → eqCells rest as bs = some r2 →
        (Op.equalIn (d + 1) f.type u v).run P w = .ok r1 w → (Op.eqFields (d + 1) xs ys (f :: fs)).run P w = .ok (r1 && r2) w := by
      intro u v r1 r2 ha hu hv h2 hrun
      have ih := planF_run d xs ys fs rest as bs r2 hrest h2 hxs hys hx hy
      have p1 : (part f.type xs f.offset).run P w = .ok u w := by simp [part, run_agg hti, ha, hu]
      have p2 : (part f.type ys f.offset).run P w = .ok v w := by simp [part, run_agg hti, ha, hv]
      simp only [Op.eqFields, ne_eq, hname, not_false_eq_true, if_true, Sem.run_bind, p1, p2, hrun, Result.andThen_ok]
      cases r1 with
      | false => simp
      | true => simpa using ih
    have at_ : ∀ (zs : Array Value) (cs : List AV) (c : AV), zs.size = cs.length → (∀ i, i < cs.length → Rel w A M (zs.getD i undef) (cs.getD i .top)) → cs.getD f.offset .top = c → c ≠ .top → ∃ u, zs[f.offset]? = some u ∧ Rel w A M u c := by
      intro zs cs c hz hrel hc hne
      have hlt : f.offset < cs.length := by
        rcases Nat.lt_or_ge f.offset cs.length with h' | h'
        · exact h'
        · rw [List.getD_eq_getElem?_getD, List.getElem?_eq_none h'] at hc
          exact absurd hc.symm hne
      have hz' : f.offset < zs.size := by omega
      refine ⟨zs[f.offset], by simp [hz'], ?_⟩
      have := hrel _ hlt
      rw [hc] at this
      simpa [hz'] using this
    have huk : P.underlying f.type = some ti.d := by obtain ⟨_, _, _, h2, _⟩ := tinfo_spec hti; exact h2
    have hagg : ti.agg = isAggDesc ti.d := by obtain ⟨_, _, _, _, _, _, _, _, h7⟩ := tinfo_spec hti; exact h7
    split at hp
    · rename_i k hk
      simp only [Option.some.injEq] at hp; subst hp
      obtain ⟨a, b, r1, r2, ha, hb, h1, h2, rfl⟩ := key _ he
      obtain ⟨k1, n, m, rfl, rfl, rfl⟩ := eqSK_int h1
      obtain ⟨u, hu, ru⟩ := at_ xs as _ hxs hx ha (by simp)
      obtain ⟨v, hv, rv⟩ := at_ ys bs _ hys hy hb (by simp)
      have eu := ru.int_inv; have ev := rv.int_inv; subst eu; subst ev
      exact fin _ _ _ _ (by rw [hagg, hk]; rfl) hu hv h2 (run_equalIn_int w d f.type _ k _ _ (by rw [huk, hk]))
    · rename_i hk
      simp only [Option.some.injEq] at hp; subst hp
      obtain ⟨a, b, r1, r2, ha, hb, h1, h2, rfl⟩ := key _ he
      obtain ⟨n, m, rfl, rfl, rfl⟩ := eqSK_str h1
      obtain ⟨u, hu, ru⟩ := at_ xs as _ hxs hx ha (by simp)
      obtain ⟨v, hv, rv⟩ := at_ ys bs _ hys hy hb (by simp)
      obtain ⟨s1, eu, e1⟩ := ru.str_inv; obtain ⟨s2, ev, e2⟩ := rv.str_inv; subst eu; subst ev
      have := run_equalIn_string (P := P) w d f.type s1 s2 (by rw [huk, hk])
      rw [bytes_toList, bytes_toList, e1, e2] at this
      exact fin _ _ _ _ (by rw [hagg, hk]; rfl) hu hv h2 this
    · rename_i hk
      simp only [Option.some.injEq] at hp; subst hp
      obtain ⟨a, b, r1, r2, ha, hb, h1, h2, rfl⟩ := key _ he
      obtain ⟨n, m, rfl, rfl, rfl⟩ := eqSK_bool h1
      obtain ⟨u, hu, ru⟩ := at_ xs as _ hxs hx ha (by simp)
      obtain ⟨v, hv, rv⟩ := at_ ys bs _ hys hy hb (by simp)
      have eu := ru.bool_inv; have ev := rv.bool_inv; subst eu; subst ev
      exact fin _ _ _ _ (by rw [hagg, hk]; rfl) hu hv h2 (run_equalIn_bool' w d f.type _ _ (by rw [huk, hk]))
    · simp at hp

theorem absInt_sound {op : BinOp} {t : TypeId} {k : IntKind} {a b : Int} {r : AV} (h : absInt op k a b = some r) :
    ∃ v, (binOp op t (.int k a) (.int k b)).run P w = .ok v w ∧ Rel w A M v r := by
  unfold absInt at h
  cases op <;> simp only at h <;> first
    | (simp at h; done)
    | (simp only [Option.some.injEq] at h; subst h; exact ⟨_, by simp [binOp, Op.intArith, Op.intCmp]; rfl, by first | exact .int _ _ | exact .bool _⟩)
    | (split at h
       · simp at h
       · rename_i hb
         simp only [Option.some.injEq] at h; subst h; exact ⟨_, by simp [binOp, Op.intDiv, hb], .int _ _⟩)

theorem absStr_sound {op : BinOp} {t : TypeId} {a b : ByteArray} {r : AV} (h : absStr op a.data.toList b.data.toList = some r) :
    ∃ v, (binOp op t (.string a) (.string b)).run P w = .ok v w ∧ Rel w A M v r := by
  unfold absStr at h
  cases op <;> simp only at h <;> first
    | (simp at h; done)
    | (simp only [Option.some.injEq] at h; subst h; exact ⟨_, by simp only [binOp, Op.stringOp, bytes_toList, Sem.run_pure], .bool _⟩)
    | (split at h
       · rename_i hle
         simp only [Option.some.injEq] at h; subst h
         have hle' : a.size + b.size ≤ 4611686018427387904 := by rw [size_data, size_data]; exact hle
         have hn : ¬ (((a.size + b.size : Nat) : Int) > IntKind.i64.max) := by
           have : IntKind.i64.max = 9223372036854775807 := by decide
           rw [this]; omega
         refine ⟨.string (a ++ b), by simp only [binOp, Op.stringOp, hn, if_false, Sem.run_pure], ?_⟩
         have : (a ++ b).data.toList = a.data.toList ++ b.data.toList := by simp
         rw [← this]; exact .str _
       · simp at h)

theorem absBin_sound {op : BinOp} {t : TypeId} {x y : Operand} {vx vy : Value} {ax ay r : AV} (hx : Rel w A M vx ax) (hy : Rel w A M vy ay) (h : absBin P op t ax ay = some r) :
    ∃ v, (do eqGuard op t x y vx vy; binOp op t vx vy : Sem Value).run P w = .ok v w ∧ Rel w A M v r := by
  unfold absBin at h
  split at h
  · rename_i k a k' b
    split at h
    · rename_i hk; subst hk
      have ex := hx.int_inv; have ey := hy.int_inv; subst ex; subst ey
      obtain ⟨v, hv, hr⟩ := absInt_sound (P := P) (w := w) (A := A) (M := M) (t := t) h
      refine ⟨v, ?_, hr⟩
      have hg : (eqGuard op t x y (.int k a) (.int k b)).run P w = .ok () w := by cases op <;> simp [eqGuard]
      simp only [Sem.run_bind, hg, Result.andThen_ok, hv]
    · simp at h
  · obtain ⟨s1, e1, h1⟩ := hx.str_inv; obtain ⟨s2, e2, h2⟩ := hy.str_inv; subst e1; subst e2; subst h1; subst h2
    obtain ⟨v, hv, hr⟩ := absStr_sound (P := P) (w := w) (A := A) (M := M) (t := t) h
    refine ⟨v, ?_, hr⟩
    have hg : (eqGuard op t x y (.string s1) (.string s2)).run P w = .ok () w := by cases op <;> simp [eqGuard]
    simp only [Sem.run_bind, hg, Result.andThen_ok, hv]
  · rename_i a b
    have ex := hx.bool_inv; have ey := hy.bool_inv; subst ex; subst ey
    split at h
    case h_2 => simp at h
    rename_i ti hti
    have hg : (eqGuard op t x y (.bool a) (.bool b)).run P w = .ok () w := by cases op <;> simp [eqGuard]
    have huk : P.underlying t = some ti.d := by obtain ⟨_, _, _, h2, _⟩ := tinfo_spec hti; exact h2
    split at h
    · rename_i hd
      simp only [Option.some.injEq] at h; subst h
      have := run_equalIn_bool' (P := P) w 9999 t a b (by rw [huk, hd])
      exact ⟨_, by simp [hg, binOp, Op.equal, Op.maxDepth, this], .bool _⟩
    · rename_i hd
      simp only [Option.some.injEq] at h; subst h
      have := run_equalIn_bool' (P := P) w 9999 t a b (by rw [huk, hd])
      exact ⟨_, by simp [hg, binOp, Op.equal, Op.maxDepth, this], .bool _⟩
    · simp at h
  · rename_i xs ys
    obtain ⟨us, e1, hs1, hr1⟩ := hx.agg_inv; obtain ⟨vs, e2, hs2, hr2⟩ := hy.agg_inv; subst e1; subst e2
    split at h
    case h_2 => simp at h
    rename_i pl hpl
    unfold eqPlan at hpl
    split at hpl
    · simp at hpl
    rename_i hno
    simp only [Bool.or_eq_true, not_or, Bool.not_eq_true] at hno
    split at hpl
    case h_2 => simp at hpl
    rename_i fs hfs
    have hfo : P.fieldsOf t = fs := by simp [Program.fieldsOf, hfs]
    have hg := run_eqGuard_agg (P := P) w op t x y us vs hno.2
    have run : ∀ r', eqCells pl xs ys = some r' → (Op.equalIn 10000 t (.agg us) (.agg vs)).run P w = .ok r' w := by
      intro r' hr'
      rw [run_equalIn_struct (P := P) w 9999 t us vs (by rw [hfo]; exact hfs) hno.1, hfo]
      exact planF_run 9998 us vs fs.toList pl xs ys r' hpl hr' hs1 hs2 hr1 hr2
    split at h
    · rename_i r' hr'
      simp only [Option.some.injEq] at h; subst h
      exact ⟨_, by simp only [Sem.run_bind, hg, Result.andThen_ok, run_eql_struct, run _ hr'], .bool _⟩
    · rename_i r' hr'
      simp only [Option.some.injEq] at h; subst h
      exact ⟨_, by simp only [Sem.run_bind, hg, Result.andThen_ok, run_neq_struct, run _ hr'], .bool _⟩
    · simp at h
  · simp at h

end
end Go.Sim
