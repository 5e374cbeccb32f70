/- slices.Clone at the rows of this program: a slice of the same elements. -/
import Derived.Test.YtlapjnnkblbhdaaDoorLib
import Derived.WalkKit
import Derived.Deep.LoopGhost
import Derived.Lib.Walk
import Derived.Lib.SliceRun
set_option linter.unusedVariables false
set_option linter.unusedSimpArgs false
namespace Go.Proofs
open Go.RowKit Go.Lib Go.Shelf

set_option maxHeartbeats 2000000 in
set_option maxRecDepth 100000 in
theorem Tryd.clone_nil (n c : Nat) (w : World) :
    Calls Tryd.prog 54 #[.slice none n c] w fun e w' => e = .returned (.slice none 0 0) ∧ w' = w := by
  have q22 : ∀ (w : World) (a : Option Addr) (n c n' c' : Nat), (binOp .eql 22 (.slice a n c) (.slice none n' c')).run Tryd.prog w = .ok (.bool a.isNone) w := fun w a n c n' c' => Lib.run_eql_slice_nil w 22 33 a n c n' c' (by kernel_rfl)
  go_enter Tryd.func54, Tryd.ntmps54
  go_wp2
  go_ret
  exact ⟨rfl, rfl⟩

set_option maxHeartbeats 2000000 in
set_option maxRecDepth 100000 in
theorem Tryd.clone_some (i0 : TypeInfo) (z : Value) (hi : Tryd.prog.info? 33 = some i0) (hz0 : i0.zero = some z) (hz1 : i0.size = 3) (hz2 : i0.bytes = 32) (hzs : z.cells.size = 3)
    (a : Addr) (n c : Nat) (news : List Value) (w : World) (hl : news.length = n * 3) (hn : n ≤ maxLen) (hbig : n * 32 ≤ 140737488355328)
    (hc : ∀ j u, news[j]? = some u → w.cell? (a.add j) = some u) (h1 : ∀ u ∈ news, u.oneCell' = true) :
    Calls Tryd.prog 54 #[.slice (some a) n c] w fun e w' => ∃ v', e = .returned v' ∧ w'.ownsRow w.heap.size 33 3 v' n news ∧ Below w.heap.size w w' := by
  have t22 : Tryd.prog.underlying 22 = some (.slice 33) := by kernel_rfl
  have q22 : ∀ (w : World) (a : Option Addr) (n c n' c' : Nat), (binOp .eql 22 (.slice a n c) (.slice none n' c')).run Tryd.prog w = .ok (.bool a.isNone) w := fun w a n c n' c' => Lib.run_eql_slice_nil w 22 33 a n c n' c' t22
  have u22 : ∀ w, Sem.run Tryd.prog (underlying 22) w = .ok (TypeDesc.slice 33) w := run_underlying t22
  have A : Aside (∀ j u, news[j]? = some u → w.cell? (a.add j) = some u) := hc
  clear hc
  go_enter Tryd.func54, Tryd.ntmps54
  go_wp2_with (at_builtin; refine wpList_append_own _ rfl _ _ 22 rfl w.heap.size 33 i0 z 3 32 t22 hi hz0 hz1 hz2 hzs (by decide) _ _ _ rfl (World.ownsRow_made w #[] 0 (Nat.le_refl _) (Nat.zero_le _) (by simp)) a n c news rfl ?qc1 ?qc2 ?qc3 ?qc4 ?qc5 ?qc6 ?_)
  case qc1 => exact hl
  case qc2 =>
    intro j u hj
    exact Lib.cell?_alloc_some _ (A.out j u hj)
  case qc3 => exact h1
  case qc4 => rw [Nat.zero_add]; exact hn
  case qc5 => rw [Nat.zero_add]; exact hbig
  case qc6 => simp
  intro v' w1 hown hgrow hnil
  go_wp2
  go_ret
  refine ⟨v', rfl, by simpa using hown, ?_⟩
  exact ((Below.refl _ w).alloc (Nat.le_refl _) _).grown hgrow (by simp) (by intro k hk; simp [Value.ownBlock] at hk; omega)
end Go.Proofs

namespace Go.Sim
open Go.RowKit Go.Proofs

def slices_Clone_o : List AV → Option (Bool × AV)
  | [.list 3 xs] => some (decide (xs.length ≤ 4398046511104), .list 3 xs)
  | _ => none

/-- A row of the call's own, as a slice that nobody writes. -/
theorem list_of_owns {w w' : World} {A : Nat → Prop} {e : TypeId} {sz : Nat} {v : Value} {xs : List AV} {news : List Value} (hl : ∀ b, A b → b < w.heap.size) (hown : w'.ownsRow w.heap.size e sz v xs.length news) (hok : ∀ x, x ∈ xs → x.okElem sz = true)
    (hr : ∀ i j, i < xs.length → j < sz → Rel w' A noBox (news.getD (i * sz + j) undef) ((xs.getD i .top).cells.getD j .top)) : Rel w' A noBox v (.list sz xs) := by
  obtain ⟨hlen, h⟩ := hown
  rcases h with ⟨rfl, h0⟩ | ⟨g, cap, cur, rfl, hg, hh, hle, hcm, hcs, htk⟩
  · have : xs = [] := List.eq_nil_of_length_eq_zero h0
    subst this
    exact .list0 _ _ _
  · by_cases hne : xs = []
    · subst hne; exact .list0 _ _ _
    · have hgl : g < w'.heap.size := by
        rcases Nat.lt_or_ge g w'.heap.size with h | h
        · exact h
        · rw [Array.getElem?_eq_none h] at hh; simp at hh
      have hcell : ∀ i j, i < xs.length → j < sz → w'.cell? ⟨g, 0 + i * sz + j, none⟩ = some (news.getD (i * sz + j) undef) := fun i j hi hj => by
        have hk : i * sz + j < xs.length * sz := idx_lt hi hj
        have hk2 : i * sz + j < cur.size := by
          rw [hcs]; exact Nat.lt_of_lt_of_le hk (Nat.mul_le_mul_right _ hle)
        have e1 : news.getD (i * sz + j) undef = cur[i * sz + j] := by
          rw [← htk]; simp [List.getD_eq_getElem?_getD, List.getElem?_take, hk, hk2]
        rw [e1, Nat.zero_add]
        simp [World.cell?, hh, hk2]
      exact .list g 0 cap sz xs (fun i j => news.getD (i * sz + j) undef) (fun hA => by have := hl g hA; omega) hgl hne hle hok hcell hr

theorem slices_Clone_c : OcOk Tryd.prog ITryd 54 slices_Clone_o := fun xs r h => by
  unfold slices_Clone_o at h; split at h
  · rename_i xs
    simp only [Option.some.injEq, Prod.mk.injEq, decide_eq_true_eq] at h; obtain ⟨hle, rfl⟩ := h
    refine ⟨enters_of Tryd.func54 rfl (by kernel_rfl), fun w A vs hI hA hrc => ?_⟩
    obtain ⟨v, rfl, h1⟩ := rc1 hrc
    have hti : ∃ ti, tinfo Tryd.prog 33 = some ti ∧ ti.sz = 3 ∧ ti.bytes = 32 ∧ ti.zero.okElem 3 = true := by
      have h : (match tinfo Tryd.prog 33 with | some ti => (ti.sz == 3) && ((ti.bytes == 32) && ti.zero.okElem 3) | none => false) = true := by kernel_rfl
      split at h
      · rename_i ti hti
        simp only [Bool.and_eq_true, beq_iff_eq] at h
        exact ⟨ti, hti, h.1, h.2.1, h.2.2⟩
      · simp at h
    obtain ⟨ti, hti, s1, s2, s3⟩ := hti
    obtain ⟨i, z, g1, g2, g3, g4, g5, g6, _⟩ := tinfo_spec hti
    have hzs : z.cells.size = 3 := by
      have hrz : Rel w A noBox z ti.zero := by rw [g6]; exact rel_avOf w A noBox z
      rw [(hrz.cells (okElem_one s3)).1, okElem_len s3]
    have hnil : ∀ n c, v = .slice none n c → xs = [] → Calls Tryd.prog 54 [v].toArray w fun e w' => ∃ v, e = .returned v ∧ Below w.heap.size w w' ∧ Rel w' A noBox v (.list 3 xs) := by
      rintro n c rfl rfl
      refine (Tryd.clone_nil n c w).mono ?_
      rintro e w' ⟨rfl, rfl⟩
      exact ⟨_, rfl, Below.refl _ _, .list0 _ _ _⟩
    have hsome : ∀ b off c (val : Nat → Nat → Value), v = .slice (some ⟨b, off, none⟩) xs.length c → (∀ x, x ∈ xs → x.okElem 3 = true) → (∀ i j, i < xs.length → j < 3 → w.cell? ⟨b, off + i * 3 + j, none⟩ = some (val i j)) → (∀ i j, i < xs.length → j < 3 → Rel w A noBox (val i j) ((xs.getD i .top).cells.getD j .top)) →
        Calls Tryd.prog 54 [v].toArray w fun e w' => ∃ v, e = .returned v ∧ Below w.heap.size w w' ∧ Rel w' A noBox v (.list 3 xs) := by
      rintro b off c val rfl hok hc hr
      have hs : ∀ i j, i < xs.length → j < 3 → ∃ u, w.cell? ⟨b, off + (i * 3 + j), none⟩ = some u ∧ Rel w A noBox u ((xs.getD i .top).cells.getD j .top) := fun i j hi hj => ⟨val i j, by rw [← Nat.add_assoc]; exact hc i j hi hj, hr i j hi hj⟩
      refine (Tryd.clone_some i z g1 g3 (by rw [← g4, s1]) (by rw [← g5, s2]) hzs ⟨b, off, none⟩ xs.length c (srcCells w b off (xs.length * 3)) w (srcCells_len _ _ _ _) (by unfold maxLen; omega) (by omega)
        (fun j u hj => src_news (by decide) hs j u hj) (src_one (by decide) hs hok)).mono ?_
      rintro e w' ⟨v', rfl, hown, hbel⟩
      exact ⟨v', rfl, hbel, list_of_owns hA hown hok fun i j hi hj => (src_rel hs hi hj).grow hbel⟩
    have h1' := h1
    generalize hx : AV.list 3 xs = x at h1
    cases h1 with
    | list0 a cap sz =>
      simp only [AV.list.injEq] at hx
      obtain ⟨rfl, rfl⟩ := hx
      cases a with
      | none => exact hnil 0 cap rfl rfl
      | some a =>
        refine (Tryd.clone_some i z g1 g3 (by rw [← g4, s1]) (by rw [← g5, s2]) hzs a 0 cap [] w rfl (Nat.zero_le _) (by omega) (by simp) (by simp)).mono ?_
        rintro e w' ⟨v', rfl, hown, hbel⟩
        exact ⟨v', rfl, hbel, list_of_owns hA (xs := []) hown (by simp) (by simp)⟩
    | list b off cap sz ys val ha hb hne hcap hsz hc hr =>
      simp only [AV.list.injEq] at hx
      obtain ⟨rfl, rfl⟩ := hx
      exact hsome b off cap val rfl hsz hc hr
    | _ => simp at hx
  · simp at h
end Go.Sim
