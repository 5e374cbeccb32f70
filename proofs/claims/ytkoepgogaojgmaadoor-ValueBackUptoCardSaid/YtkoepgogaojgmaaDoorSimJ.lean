/- An append to a slice of the call's own. -/
import Derived.Test.YtkoepgogaojgmaaDoorSimI
set_option linter.unusedVariables false
set_option linter.unusedSimpArgs false
set_option linter.unnecessarySimpa false
namespace Go.Sim
open Go.RowKit

section
variable {P : Program} {w : World} {A : Nat → Prop} {M : Nat → Option MB} {B : Nat} {H : List Box}

/-- The source of an append: its cells, or it is empty. -/
theorem absElems_sound (hR : HR w A M B H) {sz : Nat} {v : Value} {x : AV} {ys : List AV} (hx : Rel w A M v x) (h : absElems H sz x = some ys) :
    (ys = [] ∧ ∃ a c, v = .slice a 0 c) ∨ ∃ b o c, v = .slice (some ⟨b, o, none⟩) ys.length c ∧ (∀ y, y ∈ ys → y.okElem sz = true) ∧
      ∀ i j, i < ys.length → j < sz → ∃ u, w.cell? ⟨b, o + (i * sz + j), none⟩ = some u ∧ Rel w A M u ((ys.getD i .top).cells.getD j .top) := by
  unfold absElems at h
  split at h
  · simp only [Option.some.injEq] at h; subst h
    cases hx
    exact .inl ⟨rfl, none, 0, rfl⟩
  · split at h
    case isFalse => simp at h
    rename_i hs
    subst hs
    simp only [Option.some.injEq] at h; subst h
    cases hx with
    | list0 a cap _ => exact .inl ⟨rfl, a, cap, rfl⟩
    | list b off cap _ _ val ha hb hne hcap hsz hc hr =>
      exact .inr ⟨b, off, cap, rfl, hsz, fun i j hi hj => ⟨val i j, by rw [← Nat.add_assoc]; exact hc i j hi hj, hr i j hi hj⟩⟩
  · rename_i id ver off len
    split at h
    case h_2 => simp at h
    rename_i bx hbx
    split at h
    case isFalse => simp at h
    rename_i hc0
    obtain ⟨hsz, hle⟩ := hc0
    simp only [Option.some.injEq] at h; subst h
    obtain ⟨m, a, hm, hbat, hfit, rfl, ha⟩ := osl_at hR hx hbx
    have hsm : m.sz = sz := by rw [← hbat.sz, hsz]
    have hlen : ((bx.xs.drop off).take len).length = len := by simp; omega
    by_cases hz : len = 0
    · subst hz
      exact .inl ⟨by simp, some a, _, rfl⟩
    · have haa := ha (.inl (by omega)); subst haa
      refine .inr ⟨m.b, off * m.sz, m.cap - off, by rw [hlen], fun y hy => by rw [← hsm]; exact hbat.ok y (List.mem_of_mem_drop (List.mem_of_mem_take hy)), fun i j hi hj => ?_⟩
      rw [hlen] at hi
      rw [← hsm] at hj ⊢
      have := hbat.cell (show off + i < bx.xs.length by omega) hj
      rw [Nat.add_mul, Nat.add_assoc] at this
      have hg : ((bx.xs.drop off).take len).getD i .top = bx.xs.getD (off + i) .top := by
        simp [List.getD_eq_getElem?_getD, List.getElem?_take, hi, List.getElem?_drop]
      rwa [hg]
  · simp at h

theorem run_append_zero {t ty e : TypeId} {i : TypeInfo} (ht : P.underlying t = some (.slice e)) (hi : P.info? e = some i) (b : Option Addr) (len cap : Nat) (hle : len ≤ cap) (a : Option Addr) (c : Nat) :
    (Builtin.append_ #[t, t] ty #[.slice b len cap, .slice a 0 c]).run P w = .ok (.slice b len cap) w := by
  cases a <;> cases b <;> simp [Builtin.append_, run_underlying ht, sizeOf, typeInfo, hi, Builtin.lenOf, Builtin.firstCells, loadCells, loadCellsFrom, hle, storeCells]

/-- The source's cells as one list. -/
def srcCells (w : World) (b o n : Nat) : List Value := (List.range n).map fun k => (w.cell? ⟨b, o + k, none⟩).getD undef

theorem srcCells_len (w : World) (b o n : Nat) : (srcCells w b o n).length = n := by simp [srcCells]

theorem srcCells_getD {b o n k : Nat} (hk : k < n) : (srcCells w b o n).getD k undef = (w.cell? ⟨b, o + k, none⟩).getD undef := by
  simp [srcCells, List.getD_eq_getElem?_getD, hk]

theorem div_lt_of {k n sz : Nat} (hk : k < n * sz) : k / sz < n := Nat.div_lt_of_lt_mul (by rwa [Nat.mul_comm])

section src
variable {ys : List AV} {sz b o : Nat} (hsz : 0 < sz) (hs : ∀ i j, i < ys.length → j < sz → ∃ u, w.cell? ⟨b, o + (i * sz + j), none⟩ = some u ∧ Rel w A M u ((ys.getD i .top).cells.getD j .top))
include hsz hs

theorem src_cell {k : Nat} (hk : k < ys.length * sz) : ∃ u, w.cell? ⟨b, o + k, none⟩ = some u ∧ Rel w A M u ((ys.getD (k / sz) .top).cells.getD (k % sz) .top) := by
  have := hs (k / sz) (k % sz) (div_lt_of hk) (Nat.mod_lt _ hsz)
  rwa [Nat.mul_comm, Nat.div_add_mod] at this

theorem src_news (j : Nat) (u : Value) (h : (srcCells w b o (ys.length * sz))[j]? = some u) : w.cell? ((⟨b, o, none⟩ : Addr).add j) = some u := by
  have hj : j < ys.length * sz := by
    rcases Nat.lt_or_ge j (ys.length * sz) with h' | h'
    · exact h'
    · rw [List.getElem?_eq_none (by rw [srcCells_len]; exact h')] at h; simp at h
  obtain ⟨u', hu, _⟩ := src_cell hsz hs hj
  rw [addr_add, hu]
  simp [srcCells, hj, hu] at h
  rw [h]

omit hsz in
theorem src_rel {i j : Nat} (hi : i < ys.length) (hj : j < sz) : Rel w A M ((srcCells w b o (ys.length * sz)).getD (i * sz + j) undef) ((ys.getD i .top).cells.getD j .top) := by
  obtain ⟨u, hu, hr⟩ := hs i j hi hj
  rw [srcCells_getD (idx_lt hi hj), hu]
  exact hr

theorem src_one (hok : ∀ y, y ∈ ys → y.okElem sz = true) : ∀ u, u ∈ srcCells w b o (ys.length * sz) → u.oneCell' = true := by
  intro u hu
  obtain ⟨k, hk, rfl⟩ := List.mem_iff_getElem.1 hu
  have hk' : k < ys.length * sz := by rwa [srcCells_len] at hk
  obtain ⟨u', hu', hr⟩ := src_cell hsz hs hk'
  have e : (srcCells w b o (ys.length * sz))[k] = u' := by simp [srcCells, hu']
  rw [e]
  have hi := div_lt_of hk'
  have h1 := okElem_one (hok _ (getD_mem hi))
  have hl := okElem_len (hok _ (getD_mem hi))
  rw [List.all_eq_true] at h1
  exact hr.oneCell (h1 _ (getD_mem (by rw [hl]; exact Nat.mod_lt _ hsz)))
end src

theorem append_rel {xs ys : List AV} {c : List Value} {sz : Nat} {news : List Value} (hn : news.length = ys.length * sz)
    (hold : ∀ i j, i < xs.length → j < sz → Rel w A M (c.getD (i * sz + j) undef) ((xs.getD i .top).cells.getD j .top))
    (hnew : ∀ i j, i < ys.length → j < sz → Rel w A M (news.getD (i * sz + j) undef) ((ys.getD i .top).cells.getD j .top))
    {c' : List Value} (h1 : ∀ k, k < xs.length * sz → c'.getD k undef = c.getD k undef) (h2 : ∀ k, k < ys.length * sz → c'.getD (xs.length * sz + k) undef = news.getD k undef) :
    ∀ i j, i < (xs ++ ys).length → j < sz → Rel w A M (c'.getD (i * sz + j) undef) (((xs ++ ys).getD i .top).cells.getD j .top) := by
  intro i j hi hj
  by_cases hix : i < xs.length
  · have e : (xs ++ ys).getD i .top = xs.getD i .top := by simp [List.getD_eq_getElem?_getD, List.getElem?_append, hix]
    rw [e, h1 _ (idx_lt hix hj)]
    exact hold i j hix hj
  · have e : (xs ++ ys).getD i .top = ys.getD (i - xs.length) .top := by simp [List.getD_eq_getElem?_getD, List.getElem?_append, hix]
    have hiy : i - xs.length < ys.length := by simp at hi; omega
    have e2 : i * sz + j = xs.length * sz + ((i - xs.length) * sz + j) := by
      rw [← Nat.add_assoc, ← Nat.add_mul, show xs.length + (i - xs.length) = i by omega]
    rw [e, e2, h2 _ (idx_lt hiy hj)]
    exact hnew _ j hiy hj

theorem okElem_append {xs ys : List AV} {sz : Nat} (hx : ∀ x, x ∈ xs → x.okElem sz = true) (hy : ∀ x, x ∈ ys → x.okElem sz = true) : ∀ x, x ∈ xs ++ ys → x.okElem sz = true := fun x hxy => by
  rcases List.mem_append.1 hxy with h | h
  · exact hx x h
  · exact hy x h

theorem HR.drew (hR : HR w A M B H) : HR w.drew A M B H := hR.grow ⟨rfl, rfl, rfl, Nat.le_refl _, fun _ _ => rfl⟩

theorem HR.ext {H' : List Box} (hR : HR w A M B H) (h : ∀ id m, M id = some m → H'[id]? = H[id]?) : HR w A M B H' :=
  ⟨fun id m hm => by obtain ⟨bx, h1, h2⟩ := hR.box id m hm; exact ⟨bx, by rw [h id m hm]; exact h1, h2⟩, hR.inj, hR.lt⟩

theorem HR.none_of_length (hR : HR w A M B H) {id : Nat} (h : H.length ≤ id) : M id = none := by
  cases hm : M id with
  | none => rfl
  | some m =>
    obtain ⟨bx, h1, _⟩ := hR.box id m hm
    rw [List.getElem?_eq_none h] at h1
    simp at h1

set_option maxHeartbeats 1000000 in
theorem append_sound (hR : HR w A M B H) (hB : B ≤ w.heap.size) {o : Oper} {ρc : Operand → Value} {c : Call} {t : TypeId} {os ox : Operand} {xs xx r : AV} {H' : List Box} (ho : o.op = .call c) (hcal : c.callee = .builtin .append)
    (hts : c.argTypes.toList = [t, t]) (has : c.args.toList = [os, ox]) (hs : Rel w A M (ρc os) xs) (hx : Rel w A M (ρc ox) xx) (h : absAppend P H t xs xx = some (r, H')) :
    Writes P o ρc w A M B r H' := by
  unfold absAppend at h
  split at h
  case h_2 => simp at h
  rename_i ti hti
  split at h
  case h_2 => simp at h
  rename_i e hd
  split at h
  case h_2 => simp at h
  rename_i te hte
  split at h
  case h_2 => simp at h
  rename_i ys hys
  have hu : P.underlying t = some (.slice e) := by rw [tinfo_d hti, hd]
  obtain ⟨i, z, hi1, hi2, hi3, hi4, hi5, hi6, _⟩ := tinfo_spec hte
  have hts' : c.argTypes = #[t, t] := by apply Array.ext'; simpa using hts
  have has' : c.args = #[os, ox] := by apply Array.ext'; simpa using has
  have hrunE : ∀ v w', (Builtin.append_ #[t, t] o.type #[ρc os, ρc ox]).run P w = .ok v w' → (execOp ρc o).run P w = .ok (.value v) w' := by
    intro v w' hv
    simp [execOp, ho, resolve, hcal, hts', has', invoke, builtin, hv, Go.resolve]
  have hsrc := absElems_sound hR hx hys
  split at h
  · -- onto nil
    have hsv : ρc os = .slice none 0 0 := by
      generalize ρc os = v at hs
      cases hs; rfl
    rw [hsv] at hrunE
    split at h
    · rename_i hem
      have hem' : ys = [] := by simpa using hem
      subst hem'
      simp only [Option.some.injEq, Prod.mk.injEq] at h; obtain ⟨rfl, rfl⟩ := h
      have : ∃ a c, ρc ox = .slice a 0 c := by
        rcases hsrc with ⟨_, h⟩ | ⟨b, o, c, h, _⟩
        · exact h
        · exact ⟨_, _, h⟩
      obtain ⟨a, cc, hxv⟩ := this
      exact ⟨_, w, A, M, .slice none 0 0, hrunE _ _ (by rw [hxv]; simpa using run_append_zero (P := P) (w := w) (ty := o.type) hu hi1 none 0 0 (Nat.le_refl _) a cc), .inl rfl, Below.refl _ _, MExt.refl M, fun _ _ => Iff.rfl, fun _ _ _ => rfl, hR, .nils⟩
    · rename_i hem
      split at h
      case isFalse => simp at h
      rename_i hc0
      obtain ⟨hpos, hby, hln, hzok⟩ := hc0
      simp only [Option.some.injEq, Prod.mk.injEq] at h; obtain ⟨rfl, rfl⟩ := h
      rcases hsrc with ⟨rfl, _⟩ | ⟨b, off, cc, hxv, hok, hcell⟩
      · simp at hem
      have hn0 : 0 < ys.length := by cases ys with | nil => simp at hem | cons => simp
      have hsm : ys.length ≤ 4611686018427387904 := hln
      have hrz : Rel w A M z te.zero := by rw [hi6]; exact rel_avOf w A M z
      obtain ⟨hzc, _⟩ := hrz.cells (okElem_one hzok)
      have hzl := okElem_len hzok
      have hrun := run_append_nil (P := P) w t o.type e i z hu hi1 hi3 ⟨b, off, none⟩ ys.length cc (srcCells w b off (ys.length * te.sz)) (by rw [srcCells_len, hi4]) (src_news hpos hcell) hn0 (by omega) (by rw [← hi5]; omega)
      have hge := grownCap_ge w ys.length 0 e
      have hcm := grownCap_le_maxLen w ys.length 0 e (by unfold maxLen; omega)
      generalize hcap : grownCap w ys.length 0 e = cap at hrun hge hcm
      have hlt : H.length < (H ++ [(⟨0, te.sz, e, ys, false⟩ : Box)]).length := by simp
      have hR' : HR w.drew A M B (H ++ [⟨0, te.sz, e, ys, false⟩]) := hR.drew.ext fun id m hm => by
        have : id < H.length := by
          rcases Nat.lt_or_ge id H.length with h' | h'
          · exact h'
          · rw [hR.none_of_length h'] at hm; simp at hm
        rw [List.getElem?_append_left this]
      have hzsz : (Builtin.zeroCells z.cells (cap - ys.length)).size = (cap - ys.length) * te.sz := by rw [size_zeroCells]; congr 1; omega
      have hst := alloc_step (bx := ⟨0, te.sz, e, ys, false⟩) (nid := H.length) (c := (srcCells w b off (ys.length * te.sz)).toArray ++ Builtin.zeroCells z.cells (cap - ys.length)) (cap := cap) hR' (by simpa using hB) (hR.none_of_length (Nat.le_refl _)) (by simp) hcm
        (by rw [Array.size_append, List.size_toArray, srcCells_len, hzsz, ← Nat.add_mul]; congr 1; omega) hge hok
        (fun i' j hi' hj => by
          have hk : i' * te.sz + j < ys.length * te.sz := idx_lt hi' hj
          have e1 : ((srcCells w b off (ys.length * te.sz)).toArray ++ Builtin.zeroCells z.cells (cap - ys.length)).getD (i' * te.sz + j) undef = (srcCells w b off (ys.length * te.sz)).getD (i' * te.sz + j) undef := by
            simp only [Array.getD_eq_getD_getElem?, Array.getElem?_append, List.size_toArray, srcCells_len, hk, if_true, List.getElem?_toArray, List.getD_eq_getElem?_getD]
          rw [e1]
          exact (src_rel hcell hi' hj).grow ⟨rfl, rfl, rfl, Nat.le_refl _, fun _ _ => rfl⟩)
      obtain ⟨s1, s2, s3, s4, s5⟩ := hst
      have hbel : Below w.heap.size w (w.drew.alloc (.cells ((srcCells w b off (ys.length * te.sz)).toArray ++ Builtin.zeroCells z.cells (cap - ys.length)) e)) := ((Below.refl _ _).drew).alloc (by simp) _
      exact ⟨_, _, _, _, _, hrunE _ _ (by rw [hxv]; exact hrun), .inl rfl, hbel.mono hB, s1, s2, fun b hb _ => hbel.block b hb, s4, .osl _ H.length 0 0 ys.length _ s5 (Nat.le_refl _) rfl fun _ => ⟨by simpa using hge, ⟨w.heap.size, 0, none⟩, by simp, fun _ => by simp⟩⟩
  · rename_i id ver off len
    split at h
    case h_2 => simp at h
    rename_i bx hbx
    split at h
    case isFalse => simp at h
    rename_i hc0
    obtain ⟨rfl, hlen, hfz, hsz, hty, hpos, hby, hln, hzok⟩ := hc0
    simp only [Option.some.injEq, Prod.mk.injEq] at h; obtain ⟨rfl, rfl⟩ := h
    obtain ⟨m, a, hm, hbat, hfit, hsv, ha⟩ := osl_at hR hs hbx
    obtain ⟨hb1, hb2⟩ := getBox_some hbx
    have haa := ha (.inr rfl); subst haa
    simp only [Nat.zero_mul, Nat.sub_zero, Nat.zero_add] at hsv hfit
    obtain ⟨c0, h1, h2, h3⟩ := hbat.cells
    have hms : m.sz = te.sz := by rw [← hbat.sz, hsz]
    have hmt : m.ty = e := by rw [← hbat.ty, hty]
    have hmv : m.ver = ver := by rw [← hbat.ver, hb2]
    have hlsm : len + ys.length ≤ 4611686018427387904 := hln
    have hAm : A m.b := hbat.guard.1 hfz
    rw [hms] at h2 h3
    rw [hmt] at h1
    -- in place, with the news written behind
    have inplace : ∀ (news : List Value), news.length = ys.length * te.sz → (∀ y, y ∈ ys → y.okElem te.sz = true) → len + ys.length ≤ m.cap →
        (∀ i j, i < ys.length → j < te.sz → Rel w A M (news.getD (i * te.sz + j) undef) ((ys.getD i .top).cells.getD j .top)) →
        (Builtin.append_ #[t, t] o.type #[ρc os, ρc ox]).run P w = .ok (.slice (some ⟨m.b, 0, none⟩) (len + ys.length) m.cap) (w.setRow m.b (splice c0.toList (len * te.sz) news).toArray) →
        Writes P o ρc w A M B (.osl id (ver + 1) 0 (len + ys.length)) (H.set id ⟨ver + 1, te.sz, e, bx.xs ++ ys, false⟩) := by
      intro news hnl hok hroom hnew hrun
      have hoff : len * te.sz + news.length ≤ c0.toList.length := by
        have hll : c0.toList.length = m.cap * te.sz := by simpa using h2
        rw [hnl, ← Nat.add_mul, hll]
        exact Nat.mul_le_mul_right _ hroom
      obtain ⟨g1, g2, g3, g4, g5⟩ := write_step (m' := ⟨m.b, ver + 1, m.sz, m.cap, m.ty⟩) (bx' := ⟨ver + 1, te.sz, e, bx.xs ++ ys, false⟩) hR hm hb1 hbat hfz (c' := (splice c0.toList (len * te.sz) news).toArray) rfl rfl rfl rfl (.inr (by simp [hmv]))
        rfl hms.symm hmt.symm rfl (by simp; omega) (by rw [hms]; exact okElem_append (fun x hx => by rw [← hms]; exact hbat.ok x hx) hok)
        (by have := splice_length hoff; simp at this ⊢; rw [this, h2, hms])
        (by
          rw [hms]
          intro i j hi hj
          rw [getD_toArray]
          refine append_rel (c := c0.toList) hnl (fun i j hi hj => by rw [getD_toList]; exact h3 i j hi hj) hnew (fun k hk => ?_) (fun k hk => ?_) i j hi hj
          · rw [splice_getD hoff, if_neg (by rw [hlen]; omega)]
          · rw [splice_getD hoff, if_pos (by rw [hlen, hnl]; omega), ← hlen, show len * te.sz + k - len * te.sz = k by omega])
      exact ⟨_, _, A, _, _, hrunE _ _ hrun, .inl rfl, g4, g2, fun _ _ => Iff.rfl, g3, g1, .osl _ id (ver + 1) 0 (len + ys.length) ⟨m.b, ver + 1, m.sz, m.cap, m.ty⟩ (by simp [MSet]) (Nat.le_refl _) rfl fun _ => ⟨by simpa using hroom, ⟨m.b, 0, none⟩, by simp, fun _ => by simp⟩⟩
    have hlc : len ≤ m.cap := hfit
    rcases hsrc with ⟨rfl, a, cc, hxv⟩ | ⟨b, off, cc, hxv, hok, hcell⟩
    · refine inplace [] (by simp) (by simp) (by simpa using hlc) (by simp) ?_
      have hsp : (splice c0.toList (len * te.sz) []).toArray = c0 := by simp [splice]
      have hself : w.setRow m.b c0 = w := setRow_self w m.b c0 e (0, 0) h1
      rw [hsp, hself, hsv, hxv]
      simpa using run_append_zero (P := P) (w := w) (ty := o.type) hu hi1 (some ⟨m.b, 0, none⟩) len m.cap hlc a cc
    · by_cases hroom : len + ys.length ≤ m.cap
      · refine inplace (srcCells w b off (ys.length * te.sz)) (srcCells_len _ _ _ _) hok hroom (fun i j hi hj => src_rel hcell hi hj) ?_
        have hfitc : len * i.size + (srcCells w b off (ys.length * te.sz)).length ≤ c0.size := by
          rw [srcCells_len, ← hi4, ← Nat.add_mul, h2]
          exact Nat.mul_le_mul_right _ hroom
        have := run_append_room (P := P) w t o.type e i hu hi1 m.b len m.cap c0 h1 ⟨b, off, none⟩ ys.length cc (srcCells w b off (ys.length * te.sz)) (by rw [srcCells_len, hi4]) (src_news hpos hcell) (src_one hpos hcell hok) hroom hfitc
        rw [hsv, hxv, this]
        rw [← hi4]
        rfl
      · have holds : ∀ j u, (c0.toList.take (len * te.sz))[j]? = some u → w.cell? ((⟨m.b, 0, none⟩ : Addr).add j) = some u := by
          intro j u hu'
          rw [List.getElem?_take] at hu'
          split at hu'
          · rw [addr_add, Nat.zero_add]
            simp [World.cell?, h1]
            simpa using hu'
          · simp at hu'
        have hol : (c0.toList.take (len * te.sz)).length = len * te.sz := by
          simp only [List.length_take, Array.length_toList, h2]
          have : len * te.sz ≤ m.cap * te.sz := Nat.mul_le_mul_right _ hlc
          omega
        have hrun := run_append_grow (P := P) w t o.type e i z hu hi1 hi3 ⟨m.b, 0, none⟩ len m.cap (c0.toList.take (len * te.sz)) (by rw [hol, hi4]) holds ⟨b, off, none⟩ ys.length cc (srcCells w b off (ys.length * te.sz)) (by rw [srcCells_len, hi4]) (src_news hpos hcell)
          (by omega) (by omega) (growslice_fits (by omega) (by rw [← hi5]; exact hby))
        have hge := grownCap_ge w (len + ys.length) m.cap e
        have hcm := grownCap_le_maxLen w (len + ys.length) m.cap e (by unfold maxLen; omega)
        generalize hcap : grownCap w (len + ys.length) m.cap e = cap at hrun hge hcm
        have hrz : Rel w A M z te.zero := by rw [hi6]; exact rel_avOf w A M z
        obtain ⟨hzc, _⟩ := hrz.cells (okElem_one hzok)
        have hzl := okElem_len hzok
        have hzsz : (Builtin.zeroCells z.cells (cap - (len + ys.length))).size = (cap - (len + ys.length)) * te.sz := by rw [size_zeroCells]; congr 1; omega
        generalize hcc : (c0.toList.take (len * te.sz)).toArray ++ (srcCells w b off (ys.length * te.sz)).toArray ++ Builtin.zeroCells z.cells (cap - (len + ys.length)) = c1 at hrun
        have hc1s : c1.size = cap * te.sz := by
          rw [← hcc]
          simp only [Array.size_append, List.size_toArray, hol, srcCells_len, hzsz, ← Nat.add_mul]
          congr 1
          omega
        have hc1a : ∀ k, k < bx.xs.length * te.sz → c1.toList.getD k undef = c0.toList.getD k undef := by
          intro k hk
          rw [← hlen] at hk
          rw [← hcc]
          simp only [Array.toList_append, List.append_assoc, List.getD_eq_getElem?_getD, List.getElem?_append, hol, hk, if_true, List.getElem?_take]
        have hc1b : ∀ k, k < ys.length * te.sz → c1.toList.getD (bx.xs.length * te.sz + k) undef = (srcCells w b off (ys.length * te.sz)).getD k undef := by
          intro k hk
          rw [← hlen, ← hcc]
          simp only [Array.toList_append, List.append_assoc, List.getD_eq_getElem?_getD, List.getElem?_append, hol, show ¬ len * te.sz + k < len * te.sz by omega, if_false, srcCells_len, show len * te.sz + k - len * te.sz = k by omega, hk, if_true]
        have hbel : Below w.heap.size w (w.drew.alloc (.cells c1 e)) := ((Below.refl _ _).drew).alloc (by simp) _
        have hid : id < H.length := by
          rcases Nat.lt_or_ge id H.length with h' | h'
          · exact h'
          · rw [List.getElem?_eq_none h'] at hb1; simp at hb1
        -- the box has moved
        let m1 : MB := ⟨w.heap.size, ver + 1, te.sz, cap, e⟩
        have hext : MExt M (MSet M id m1) := mext_set hm (.inr (by simp [m1, hmv]))
        have hA : ∀ b, b < w.heap.size → (APut A w.heap.size false b → A b) := fun b hb h => by
          rcases h with h | ⟨h, _⟩
          · exact h
          · omega
        have hrelup : ∀ u x, Rel w A M u x → Rel (w.drew.alloc (.cells c1 e)) (APut A w.heap.size false) (MSet M id m1) u x := fun u x hr => hr.mono (fun b hb _ => hbel.block b hb) hbel.size hA hext
        refine ⟨_, _, APut A w.heap.size false, MSet M id m1, _, hrunE _ _ (by rw [hsv, hxv]; exact hrun), .inl rfl, hbel.mono hB, hext, fun b hb => ⟨hA b hb, .inl⟩, fun b hb _ => hbel.block b hb, ⟨?_, ?_, ?_⟩, .osl _ id (ver + 1) 0 (len + ys.length) m1 (by simp [MSet]) (Nat.le_refl _) rfl fun _ => ⟨by simpa [m1] using hge, ⟨w.heap.size, 0, none⟩, by simp [m1], fun _ => by simp [m1]⟩⟩
        · intro i' m2 hm2
          by_cases hii : i' = id
          · subst hii
            have : m2 = m1 := by simp [MSet] at hm2; exact hm2.symm
            subst this
            refine ⟨_, by rw [List.getElem?_set_self hid], ⟨rfl, rfl, rfl, hcm, by simp [m1]; omega, by simpa [m1] using hB, by simp [m1], okElem_append (fun x hx => by have := hbat.ok x hx; rwa [hms] at this) hok, ⟨c1, by simpa [m1] using heap_alloc_new w.drew (.cells c1 e), by simpa [m1] using hc1s, ?_⟩, ⟨fun _ => .inr ⟨rfl, rfl⟩, fun _ => rfl⟩⟩⟩
            intro i j hi hj
            refine hrelup _ _ ?_
            rw [← getD_toList]
            exact append_rel (c := c0.toList) (srcCells_len _ _ _ _) (fun i j hi hj => by rw [getD_toList]; exact h3 i j hi hj) (fun i j hi hj => src_rel hcell hi hj) hc1a hc1b i j hi hj
          · have hm3 : M i' = some m2 := by simpa [MSet, hii] using hm2
            obtain ⟨bx2, g1, g2⟩ := hR.box i' m2 hm3
            exact ⟨bx2, by rw [List.getElem?_set_ne (Ne.symm hii)]; exact g1, g2.mono (hbel.block _ g2.lt) (fun b hb _ => hbel.block b hb) hbel.size hA ⟨fun hf => .inl (g2.guard.1 hf), fun hf => g2.guard.2 (hA _ g2.lt hf)⟩ hext⟩
        · intro i' i'' m2 m3 hm2 hm3 he
          by_cases hi' : i' = id <;> by_cases hi'' : i'' = id
          · rw [hi', hi'']
          · exfalso
            have g1 : m2 = m1 := by simp [MSet, hi'] at hm2; exact hm2.symm
            have g2 : M i'' = some m3 := by simpa [MSet, hi''] using hm3
            obtain ⟨bx2, _, g3⟩ := hR.box i'' m3 g2
            have := g3.lt
            rw [← he, g1] at this
            simp [m1] at this
          · exfalso
            have g1 : m3 = m1 := by simp [MSet, hi''] at hm3; exact hm3.symm
            have g2 : M i' = some m2 := by simpa [MSet, hi'] using hm2
            obtain ⟨bx2, _, g3⟩ := hR.box i' m2 g2
            have := g3.lt
            rw [he, g1] at this
            simp [m1] at this
          · exact hR.inj i' i'' m2 m3 (by simpa [MSet, hi'] using hm2) (by simpa [MSet, hi''] using hm3) he
        · intro b hb
          rcases hb with hb | ⟨rfl, _⟩
          · have := hR.lt b hb; simp; omega
          · simp
  · simp at h

theorem iop_sound (hR : HR w A M B H) (hB : B ≤ w.heap.size) {ρ : Operand → AV} {ρc : Operand → Value} {o : Oper} {x : AV} {H' : List Box} (hρ : ∀ a, Rel w A M (ρc a) (ρ a)) (h : iop P ρ H o.op = some (x, H')) : Writes P o ρc w A M B x H' := by
  unfold iop at h
  split at h
  · rename_i t a v ho
    split at h
    case h_2 => simp at h
    rename_i H2 hst
    simp only [Option.some.injEq, Prod.mk.injEq] at h; obtain ⟨rfl, rfl⟩ := h
    exact store_sound hR ho (hρ a) (hρ v) hst
  · rename_i c ho
    split at h
    case h_2 => simp at h
    rename_i b hcal
    split at h
    · rename_i t t' s y hts has
      split at h
      case isFalse => simp at h
      rename_i hte
      subst hte
      exact append_sound hR hB ho hcal hts has (hρ s) (hρ y) h
    · simp at h
  · simp at h

end
end Go.Sim
