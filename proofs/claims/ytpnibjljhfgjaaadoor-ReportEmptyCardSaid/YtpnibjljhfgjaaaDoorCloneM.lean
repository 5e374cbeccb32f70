/- slices.Clone at the rows of this program: a slice of the same elements. -/
import Derived.Test.YtpnibjljhfgjaaaDoorOwn
import Derived.WalkKit
import Derived.Deep.LoopGhost
import Derived.Lib.Walk
import Derived.Lib.SliceRun
set_option linter.unusedVariables false
set_option linter.unusedSimpArgs false
namespace Go.Proofs
open Go.RowKit Go.Lib

set_option maxHeartbeats 2000000 in
set_option maxRecDepth 100000 in
theorem Tryd.clone_nil (n c : Nat) (w : World) :
    Calls Tryd.prog 37 #[.slice none n c] w fun e w' => e = .returned (.slice none 0 0) ∧ w' = w := by
  have qS : ∀ (w : World) (a : Option Addr) (n c n' c' : Nat), (binOp .eql 32 (.slice a n c) (.slice none n' c')).run Tryd.prog w = .ok (.bool a.isNone) w := fun w a n c n' c' => Lib.run_eql_slice_nil w 32 9 a n c n' c' (by kernel_rfl)
  go_enter Tryd.func37, Tryd.ntmps37
  go_wp2
  go_ret
  exact ⟨rfl, rfl⟩

set_option maxHeartbeats 2000000 in
set_option maxRecDepth 100000 in
theorem Tryd.clone_some (i0 : TypeInfo) (z : Value) (hi : Tryd.prog.info? 9 = some i0) (hz0 : i0.zero = some z) (hz1 : i0.size = 1) (hz2 : i0.bytes = 16) (hzs : z.cells.size = 1)
    (a : Addr) (n c : Nat) (news : List Value) (w : World) (hl : news.length = n * 1) (hn : n ≤ maxLen) (hbig : n * 16 ≤ 140737488355328)
    (hc : ∀ j u, news[j]? = some u → w.cell? (a.add j) = some u) (h1 : ∀ u ∈ news, u.oneCell' = true) :
    Calls Tryd.prog 37 #[.slice (some a) n c] w fun e w' => ∃ v', e = .returned v' ∧ w'.ownsRow w.heap.size 9 1 v' n news ∧ Below w.heap.size w w' := by
  have tS : Tryd.prog.underlying 32 = some (.slice 9) := by kernel_rfl
  have qS : ∀ (w : World) (a : Option Addr) (n c n' c' : Nat), (binOp .eql 32 (.slice a n c) (.slice none n' c')).run Tryd.prog w = .ok (.bool a.isNone) w := fun w a n c n' c' => Lib.run_eql_slice_nil w 32 9 a n c n' c' tS
  have uS : ∀ w, Sem.run Tryd.prog (underlying 32) w = .ok (TypeDesc.slice 9) w := run_underlying tS
  have A : Aside (∀ j u, news[j]? = some u → w.cell? (a.add j) = some u) := hc
  clear hc
  go_enter Tryd.func37, Tryd.ntmps37
  go_wp2_with (at_builtin; refine wpList_append_own _ rfl _ _ 32 rfl w.heap.size 9 i0 z 1 16 tS hi hz0 hz1 hz2 hzs (by decide) _ _ _ rfl (World.ownsRow_made w #[] 0 (Nat.le_refl _) (Nat.zero_le _) (by simp)) a n c news rfl ?qc1 ?qc2 ?qc3 ?qc4 ?qc5 ?qc6 ?_)
  case qc1 => exact hl
  case qc2 =>
    intro j u hj
    exact Lib.cell?_alloc_some _ (A.out j u hj)
  case qc3 => exact h1
  case qc4 => rw [Nat.zero_add]; exact hn
  case qc5 => rw [Nat.zero_add]; exact hbig
  case qc6 => simp
  intro v' w1 hown hgrow hnil
  go_wp2
  go_ret
  refine ⟨v', rfl, by simpa using hown, ?_⟩
  exact ((Below.refl _ w).alloc (Nat.le_refl _) _).grown hgrow (by simp) (by intro k hk; simp [Value.ownBlock] at hk; omega)
end Go.Proofs

namespace Go.Sim
open Go.RowKit Go.Proofs

def slices_Clone_o : List AV → List Box → Option (Bool × AV × List Box)
  | [.list 1 xs], [] => some (decide (xs.length ≤ 4398046511104), .osl 0 0 0 xs.length, [⟨0, 1, 9, xs, false, true⟩])
  | [.nils], [] => some (true, .osl 0 0 0 0, [⟨0, 1, 9, [], false, true⟩])
  | _, _ => none

theorem slices_Clone_c : OmOk Tryd.prog ITryd 37 slices_Clone_o := fun xs H r H' h => by
  have key : ∀ (xs : List AV), xs.length ≤ 4398046511104 → ∀ x, (x = AV.list 1 xs ∨ (x = .nils ∧ xs = [])) → GoodM Tryd.prog ITryd 37 [x] [] (.osl 0 0 0 xs.length) [⟨0, 1, 9, xs, false, true⟩] := fun xs hle x hx => by
    refine ⟨enters_of Tryd.func37 rfl (by kernel_rfl), fun w0 w A M vs hI hB hR hrc => ?_⟩
    obtain ⟨v, rfl, h1⟩ := rc1 hrc
    have hti : ∃ ti, tinfo Tryd.prog 9 = some ti ∧ ti.sz = 1 ∧ ti.bytes = 16 ∧ ti.zero.okElem 1 = true := by
      have h : (match tinfo Tryd.prog 9 with | some ti => (ti.sz == 1) && ((ti.bytes == 16) && ti.zero.okElem 1) | none => false) = true := by kernel_rfl
      split at h
      · rename_i ti hti
        simp only [Bool.and_eq_true, beq_iff_eq] at h
        exact ⟨ti, hti, h.1, h.2.1, h.2.2⟩
      · simp at h
    obtain ⟨ti, hti, s1, s2, s3⟩ := hti
    obtain ⟨i, z, g1, g2, g3, g4, g5, g6, _⟩ := tinfo_spec hti
    have hzs : z.cells.size = 1 := by
      have hrz : Rel w A noBox z ti.zero := by rw [g6]; exact rel_avOf w A noBox z
      rw [(hrz.cells (okElem_one s3)).1, okElem_len s3]
    have fin : ∀ (w' : World) (v' : Value) (news : List Value), Below w.heap.size w w' → w'.ownsRow w.heap.size 9 1 v' xs.length news → (∀ x, x ∈ xs → x.okElem 1 = true) → (∀ i j, i < xs.length → j < 1 → Rel w A noBox (news.getD (i * 1 + j) undef) ((xs.getD i .top).cells.getD j .top)) →
        ∀ e, e = Ending.returned v' → ∃ v A' M', e = .returned v ∧ Below w0.heap.size w0 w' ∧ (∀ b, b < w0.heap.size → (A' b ↔ A b)) ∧ Ev ⟨A, w, A, M, ([] : List Box).length⟩ w' A' M' ∧ HR w' A' M' w0.heap.size [⟨0, 1, 9, xs, false, true⟩] ∧ Rel w' A' M' v (.osl 0 0 0 xs.length) := fun w' v' news hbel hown hok hr e he => by
      obtain ⟨A', M', k1, k2, k3, k4⟩ := own_new (pm := true) hR hB.size hbel hown hok hr
      exact ⟨v', A', M', he, hB.trans (hbel.mono hB.size), fun b hb => k3 b (Nat.lt_of_lt_of_le hb hB.size), Ev.refl.step k2, k1, k4⟩
    have hsome : ∀ b off c (val : Nat → Nat → Value), v = .slice (some ⟨b, off, none⟩) xs.length c → (∀ x, x ∈ xs → x.okElem 1 = true) → (∀ i j, i < xs.length → j < 1 → w.cell? ⟨b, off + i * 1 + j, none⟩ = some (val i j)) → (∀ i j, i < xs.length → j < 1 → Rel w A noBox (val i j) ((xs.getD i .top).cells.getD j .top)) →
        Calls Tryd.prog 37 [v].toArray w fun e w' => ∃ v A' M', e = .returned v ∧ Below w0.heap.size w0 w' ∧ (∀ b, b < w0.heap.size → (A' b ↔ A b)) ∧ Ev ⟨A, w, A, M, ([] : List Box).length⟩ w' A' M' ∧ HR w' A' M' w0.heap.size [⟨0, 1, 9, xs, false, true⟩] ∧ Rel w' A' M' v (.osl 0 0 0 xs.length) := by
      rintro b off c val rfl hok hc hr
      have hs : ∀ i j, i < xs.length → j < 1 → ∃ u, w.cell? ⟨b, off + (i * 1 + j), none⟩ = some u ∧ Rel w A noBox u ((xs.getD i .top).cells.getD j .top) := fun i j hi hj => ⟨val i j, by rw [← Nat.add_assoc]; exact hc i j hi hj, hr i j hi hj⟩
      refine (Tryd.clone_some i z g1 g3 (by rw [← g4, s1]) (by rw [← g5, s2]) hzs ⟨b, off, none⟩ xs.length c (srcCells w b off (xs.length * 1)) w (srcCells_len _ _ _ _) (by unfold maxLen; omega) (by omega)
        (fun j u hj => src_news (by decide) hs j u hj) (src_one (by decide) hs hok)).mono ?_
      rintro e w' ⟨v', he, hown, hbel⟩
      exact fin w' v' _ hbel hown hok (fun i j hi hj => src_rel hs hi hj) e he
    have hnil : xs = [] → ∀ a c, v = .slice a 0 c → Calls Tryd.prog 37 [v].toArray w fun e w' => ∃ v A' M', e = .returned v ∧ Below w0.heap.size w0 w' ∧ (∀ b, b < w0.heap.size → (A' b ↔ A b)) ∧ Ev ⟨A, w, A, M, ([] : List Box).length⟩ w' A' M' ∧ HR w' A' M' w0.heap.size [⟨0, 1, 9, xs, false, true⟩] ∧ Rel w' A' M' v (.osl 0 0 0 xs.length) := by
      intro hx0 a c hv
      subst hx0 hv
      cases a with
      | none =>
        refine (Tryd.clone_nil 0 c w).mono ?_
        rintro e w' ⟨he, rfl⟩
        exact fin _ _ [] (Below.refl _ _) ⟨rfl, .inl ⟨rfl, rfl⟩⟩ (by simp) (by simp) e he
      | some a =>
        refine (Tryd.clone_some i z g1 g3 (by rw [← g4, s1]) (by rw [← g5, s2]) hzs a 0 c [] w rfl (Nat.zero_le _) (by omega) (by simp) (by simp)).mono ?_
        rintro e w' ⟨v', he, hown, hbel⟩
        exact fin _ _ [] hbel hown (by simp) (by simp) e he
    rcases hx with rfl | ⟨rfl, hx0⟩
    · generalize hx : AV.list 1 xs = x at h1
      cases h1 with
      | list0 a cap sz =>
        simp only [AV.list.injEq] at hx
        exact hnil hx.2 a cap rfl
      | list b off cap sz ys val ha hb hne hcap hsz hc hr =>
        simp only [AV.list.injEq] at hx
        obtain ⟨rfl, rfl⟩ := hx
        exact hsome b off cap val rfl hsz hc hr
      | _ => simp at hx
    · cases h1
      exact hnil hx0 none 0 rfl
  unfold slices_Clone_o at h; split at h
  · rename_i xs
    simp only [Option.some.injEq, Prod.mk.injEq, decide_eq_true_eq] at h; obtain ⟨hle, rfl, rfl⟩ := h
    exact key xs hle _ (.inl rfl)
  · simp only [Option.some.injEq, Prod.mk.injEq, true_and] at h; obtain ⟨rfl, rfl⟩ := h
    exact key [] (by simp) _ (.inr ⟨rfl, rfl⟩)
  · simp at h
end Go.Sim
