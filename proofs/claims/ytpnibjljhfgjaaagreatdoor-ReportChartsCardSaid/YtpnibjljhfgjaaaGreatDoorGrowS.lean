/- slices.Grow of nil at the rows of this program: an empty slice of the call's own. -/
import Derived.Test.YtpnibjljhfgjaaaGreatDoorLibR
import Derived.WalkKit
import Derived.Deep.LoopGhost
import Derived.Lib.Walk
import Derived.Lib.SliceRun
import Derived.Lib.AppendZerosOnto
set_option linter.unusedVariables false
set_option linter.unusedSimpArgs false
namespace Go.Proofs
open Go.RowKit Go.Lib

set_option maxHeartbeats 2000000 in
set_option maxRecDepth 100000 in
theorem Tryz.grow_zero (w : World) : Calls Tryz.prog 67 #[.slice none 0 0, .int .i64 0] w fun e w' => e = .returned (.slice none 0 0) ∧ w' = w := by
  have tS : Tryz.prog.underlying 59 = some (.slice 9) := by kernel_rfl
  have uS : ∀ w, Sem.run Tryz.prog (underlying 59) w = .ok (TypeDesc.slice 9) w := run_underlying tS
  go_enter Tryz.func67, Tryz.ntmps67
  go_wp2
  go_ret
  exact ⟨rfl, rfl⟩

set_option maxHeartbeats 4000000 in
set_option maxRecDepth 100000 in
theorem Tryz.grow_nil (i0 : TypeInfo) (z : Value) (hi0 : Tryz.prog.info? 9 = some i0) (hz0 : i0.zero = some z) (hs0 : 0 < i0.size) (n : Nat) (w : World) (hn : 0 < n) (hbig : n * i0.bytes ≤ 140737488355328) (h63 : n ≤ 4611686018427387904) :
    Calls Tryz.prog 67 #[.slice none 0 0, .int .i64 n] w fun e w' =>
      e = .returned (.slice (some ⟨w.heap.size, 0, none⟩) 0 (grownCap w n 0 9)) ∧ w' = w.drew.alloc (.cells (Builtin.zeroCells z.cells n ++ Builtin.zeroCells z.cells (grownCap w n 0 9 - n)) 9) := by
  have tS : Tryz.prog.underlying 59 = some (.slice 9) := by kernel_rfl
  have t3 : Tryz.prog.underlying 3 = some (.int .i64) := by kernel_rfl
  have uS : ∀ w, Sem.run Tryz.prog (underlying 59) w = .ok (TypeDesc.slice 9) w := run_underlying tS
  have u3 : ∀ w, Sem.run Tryz.prog (underlying 3) w = .ok (TypeDesc.int .i64) w := run_underlying t3
  have zE : ∀ w, (Go.sizeOf 9).run Tryz.prog w = .ok i0.size w := fun w => by simp [Go.sizeOf, typeInfo, hi0]
  have h1 : ¬ ((n : Int) < 0) := by omega
  have h2 : wrap64 ((0 : Int) - 0) = 0 := by unfold wrap64; omega
  have h3 : wrap64 ((n : Int) - 0) = (n : Int) := by unfold wrap64; omega
  have h4 : (n : Int) > 0 := by omega
  have hrz : ∀ ty, (Builtin.append_ #[59, 3] ty #[.slice none 0 0, .int .i64 (n : Int)]).run Tryz.prog w = .ok (.slice (some ⟨w.heap.size, 0, none⟩) n (grownCap w n 0 9)) (w.drew.alloc (.cells (Builtin.zeroCells z.cells n ++ Builtin.zeroCells z.cells (grownCap w n 0 9 - n)) 9)) := fun ty => by
    have h := Lib.run_append_grow_zeros w 59 3 ty 9 i0 z .i64 .i64 tS t3 hi0 hz0 none 0 0 [] (run_firstCells_none w.drew i0.size 0 0 0) n (by omega) hs0 (by omega) (by omega) (by omega)
      (by rw [Nat.zero_add]; exact growslice_fits hn hbig)
    simpa using h
  have hGn : n ≤ grownCap w n 0 9 := grownCap_ge w _ _ _
  obtain ⟨G, hG⟩ : ∃ G, G = grownCap w n 0 9 := ⟨_, rfl⟩
  rw [← hG] at hrz hGn ⊢
  have hG63 : G ≤ 9223372036854775807 := by
    have := grownCap_le_maxLen w n 0 9 (by unfold maxLen; omega)
    rw [← hG] at this
    unfold maxLen at this
    omega
  clear hG
  go_enter Tryz.func67, Tryz.ntmps67
  go_wp2_with (at_builtin; refine Lib.wpList_append_run _ rfl _ _ _ _ rfl _ _ rfl rfl _ _ (hrz _) ?_)
  all_goals (go_ret; exact ⟨rfl, rfl⟩)
end Go.Proofs

namespace Go.Sim
open Go.RowKit Go.Proofs

def slices_Grow_o : List AV → List Box → Option (Bool × AV × List Box)
  | [.nils, .int .i64 n], [] => some (decide (0 ≤ n) && decide (n ≤ 4398046511104), .osl 0 0 0 0, [⟨0, 1, 9, [], false, true⟩])
  | _, _ => none

theorem slices_Grow_c : OmOk Tryz.prog ITryz 67 slices_Grow_o := fun xs H r H' h => by
  unfold slices_Grow_o at h; split at h
  · rename_i n
    simp only [Option.some.injEq, Prod.mk.injEq, Bool.and_eq_true, decide_eq_true_eq] at h; obtain ⟨⟨hn0, hle⟩, rfl, rfl⟩ := h
    refine ⟨enters_of Tryz.func67 rfl (by kernel_rfl), fun w0 w A M vs hI hB hR hrc => ?_⟩
    obtain ⟨n, rfl⟩ := Int.eq_ofNat_of_zero_le hn0
    have hvs : vs = [.slice none 0 0, .int .i64 n] := by
      obtain ⟨h1, h2⟩ := hrc
      match vs, h1 with
      | [v0, v1], _ =>
        have g0 := h2 0 (by simp)
        have g1 := h2 1 (by simp)
        change Rel w A M v0 .nils at g0
        change Rel w A M v1 (.int .i64 n) at g1
        rw [g1.int_inv]
        cases g0
        rfl
    subst hvs
    have hti : ∃ ti, tinfo Tryz.prog 9 = some ti ∧ ti.sz = 1 ∧ ti.bytes = 16 ∧ ti.zero.okElem 1 = true := by
      have h : (match tinfo Tryz.prog 9 with | some ti => (ti.sz == 1) && ((ti.bytes == 16) && ti.zero.okElem 1) | none => false) = true := by kernel_rfl
      split at h
      · rename_i ti hti
        simp only [Bool.and_eq_true, beq_iff_eq] at h
        exact ⟨ti, hti, h.1, h.2.1, h.2.2⟩
      · simp at h
    obtain ⟨ti, hti, s1, s2, s3⟩ := hti
    obtain ⟨i, z, g1, g2, g3, g4, g5, g6, _⟩ := tinfo_spec hti
    have hzs : z.cells.size = 1 := by
      have hrz : Rel w A noBox z ti.zero := by rw [g6]; exact rel_avOf w A noBox z
      rw [(hrz.cells (okElem_one s3)).1, okElem_len s3]
    have hM : M 0 = none := hR.none_of_length (Nat.le_refl _)
    rcases Nat.eq_zero_or_pos n with rfl | hn
    · refine (Tryz.grow_zero w).mono ?_
      rintro e w' ⟨rfl, rfl⟩
      obtain ⟨k1, k2, k3⟩ := hR.virt 1 9 true
      exact ⟨_, A, _, rfl, hB, fun _ _ => Iff.rfl, Ev.refl.step k2, k1, k3 none⟩
    · refine (Tryz.grow_nil i z g1 g3 (by omega) n w hn (by rw [← g5, s2]; omega) (by omega)).mono ?_
      rintro e w' ⟨rfl, rfl⟩
      have hge := grownCap_ge w n 0 9
      have hcm := grownCap_le_maxLen w n 0 9 (show n ≤ maxLen by unfold maxLen; omega)
      generalize grownCap w n 0 9 = cap at hge hcm ⊢
      have hsz : (Builtin.zeroCells z.cells n ++ Builtin.zeroCells z.cells (cap - n)).size = cap * 1 := by
        rw [Array.size_append, size_zeroCells, size_zeroCells, hzs, ← Nat.add_mul, Nat.add_sub_cancel' hge]
      have hR' : HR w.drew A M w0.heap.size [⟨0, 1, 9, [], false, true⟩] := hR.drew.ext fun id m hm => by
        exfalso
        have := hR.none_of_length (id := id) (Nat.zero_le _)
        rw [this] at hm; simp at hm
      obtain ⟨k1, k2, k3, k4, k5⟩ := alloc_step (nid := 0) (bx := ⟨0, 1, 9, [], false, true⟩) (c := Builtin.zeroCells z.cells n ++ Builtin.zeroCells z.cells (cap - n)) (cap := cap) hR' (by simpa using hB.size) hM (by simp) hcm hsz (by simp) (by simp) (fun i j hi => by simp at hi)
      have hbel : Below w.heap.size w (w.drew.alloc (.cells (Builtin.zeroCells z.cells n ++ Builtin.zeroCells z.cells (cap - n)) 9)) := ((Below.refl _ _).drew).alloc (by simp) _
      refine ⟨_, APut A w.heap.size false, _, rfl, hB.trans (hbel.mono hB.size), fun b hb => ?_, ?_, k4, .osl _ 0 0 0 0 _ k5 (Nat.le_refl _) rfl fun _ => ⟨by simp, some ⟨w.heap.size, 0, none⟩, by simp, fun _ => by simp⟩⟩
      · exact k2 b (Nat.lt_of_lt_of_le hb hB.size)
      · refine Ev.refl.step ⟨hbel.size, fun b hb _ => hbel.block b hb, fun b hb h => (k2 b hb).1 h, fun b hb h _ => (k2 b hb).2 h, k1, .of_new hbel fun id m' hm' => ?_⟩
        by_cases hid : id = 0
        · subst hid; exact k3.2 m' hm'
        · rw [k3.1 id hid] at hm'; exact .inl hm'
  · simp at h
end Go.Sim
