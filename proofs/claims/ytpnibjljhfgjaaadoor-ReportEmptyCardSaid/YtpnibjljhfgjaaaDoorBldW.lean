/- Walks of strings.Builder's methods at this program: copyCheck and String, with the world that they leave. -/
import Derived.Test.YtpnibjljhfgjaaaDoorProg
import Derived.WalkKit
import Derived.BigCall
import Derived.Lib.Strings
import Derived.Lib.Slices
import Derived.Lib.Walk
import Derived.Lib.Builder
import Derived.Lib.AppendStr
import Derived.Lib.UnsafeStr
import Derived.Laws.Externs
import Derived.Laws.IdiomCopy
import Derived.Laws.BitsLemmas
import Derived.RegionTactic
import Derived.KernelRfl
set_option linter.unusedVariables false
set_option linter.unusedSimpArgs false
namespace Go.Proofs
open Go.RowKit Go.Lib

/-- A builder lies at the head of a row of builders. -/
theorem Tryd.lies_builder (n : Nat) (hn : 1 ≤ n) : liesAt Tryd.prog Tryd.prog.depth 50 n 0 50 1 = true := by
  have hc : Tryd.prog.cellsOf 50 = 2 := by kernel_rfl
  have hd : Tryd.prog.depth = (2 * (Tryd.prog.types.size + Made.depth) + 1) + 1 := rfl
  generalize Tryd.prog = P at *
  rw [hd]
  simp only [liesAt, Bool.or_eq_true]
  left
  rw [hd]
  simp [rowAt, hc, hn, sameLayout]

set_option maxHeartbeats 2000000 in
set_option maxRecDepth 100000 in
theorem Tryd.copyCheck_used (b : Nat) (w : World) (h0 : w.cell? ⟨b, 0, none⟩ = some (.pointer (some ⟨b, 0, none⟩))) :
    Calls Tryd.prog 29 #[.pointer (some ⟨b, 0, none⟩)] w fun e w' => e = .returned (.tuple #[]) ∧ w' = w := by
  have hsz : (Tryd.prog.info? 50).map (·.size) = some 2 := by kernel_rfl
  obtain ⟨j, hj, _⟩ := Option.map_eq_some_iff.1 hsz
  have tp : Tryd.prog.underlying 47 = some (.pointer 50) := by kernel_rfl
  go_enter Tryd.func29, Tryd.ntmps29
  go_wp2
  rw [Lib.run_neq_ptr_same w _ tp hj]
  go_wp2
  go_end0
  exact ⟨rfl, rfl⟩

set_option maxHeartbeats 2000000 in
set_option maxRecDepth 100000 in
theorem Tryd.copyCheck_fresh (b n : Nat) (hn : 1 ≤ n) (w : World) (h0 : w.cell? ⟨b, 0, none⟩ = some (.pointer none)) (hsh : w.shape? b = some (50, n * 2)) (hfz : w.frozen? ⟨b, 0, none⟩ = false) :
    Calls Tryd.prog 29 #[.pointer (some ⟨b, 0, none⟩)] w fun e w' => e = .returned (.tuple #[]) ∧ w' = w.setCell ⟨b, 0, none⟩ (.pointer (some ⟨b, 0, none⟩)) := by
  have hsz : (Tryd.prog.info? 50).map (·.size) = some 2 := by kernel_rfl
  obtain ⟨j, hj, hjs⟩ := Option.map_eq_some_iff.1 hsz
  have hc : Tryd.prog.cellsOf 50 = 2 := by kernel_rfl
  have tp : Tryd.prog.underlying 47 = some (.pointer 50) := by kernel_rfl
  have tu : Tryd.prog.underlying 84 = some .unsafePointer := by kernel_rfl
  have hlies : liesAt Tryd.prog Tryd.prog.depth 50 (n * 2 / Tryd.prog.cellsOf 50) 0 50 1 = true := by
    rw [hc, Nat.mul_div_cancel _ (by decide)]; exact Tryd.lies_builder n hn
  have c1 := Lib.run_to_unsafe w ⟨b, 0, none⟩ tp tu hj (by rw [hjs]; decide) hsh (show 0 < n * 2 by omega)
  have c2 := Lib.run_from_unsafe w ⟨b, 0, none⟩ tu tp hj hsh hlies
  clear hlies
  go_enter Tryd.func29, Tryd.ntmps29
  go_wp2
  rw [run_callFunc_extern Tryd.func42 (by kernel_rfl) (by kernel_rfl) (by kernel_rfl) (e := Extern.AbiNoEscape.same) (by kernel_rfl)]
  rw [Lib.run_noEscape]
  simp only [Result.andThen]
  rw [Oper.upon_value]
  go_wp2
  go_end0
  exact ⟨rfl, rfl⟩

set_option maxHeartbeats 2000000 in
set_option maxRecDepth 100000 in
theorem Tryd.builder_string (b g cap : Nat) (l : List UInt8) (cur : Array Value) (w : World) (hb : w.cell? ⟨b, 1, none⟩ = some (.slice (some ⟨g, 0, none⟩) l.length cap))
    (hg : w.heap[g]? = some (.cells cur 5 (0, 0))) (hcell : ∀ j x, l[j]? = some x → w.cell? ((⟨g, 0, none⟩ : Addr).add j) = some (.int .u8 x.toNat)) (hle : l.length ≤ cur.size) (hcap : cap ≠ 0) (h0 : l ≠ []) (hmax : l.length ≤ 9223372036854775807) :
    Calls Tryd.prog 18 #[.pointer (some ⟨b, 0, none⟩)] w fun e w' => e = .returned (.string ⟨l.toArray⟩) ∧ w' = w.drew.freeze ⟨g, 0, none⟩ l.length := by
  have c1 : w.drew.cell? ⟨b, 1, none⟩ = some (.slice (some ⟨g, 0, none⟩) l.length cap) := hb
  have tpu : Tryd.prog.underlying 70 = some (.pointer 5) := by kernel_rfl
  have hcb : Tryd.prog.cellsOf 5 = 1 := by kernel_rfl
  have hSD : (Builtin.unsafeSliceData_ #[48] 70 #[.slice (some ⟨g, 0, none⟩) l.length cap]).run Tryd.prog w.drew = .ok (.pointer (some ⟨g, 0, none⟩)) w.drew :=
    Lib.run_unsafeSliceData_row _ _ _ _ _ _ hcap
  have hUS : (Builtin.unsafeString_ #[70, 3] 9 #[.pointer (some ⟨g, 0, none⟩), .int .i64 l.length]).run Tryd.prog w.drew = .ok (.string ⟨l.toArray⟩) (w.drew.freeze ⟨g, 0, none⟩ l.length) :=
    Lib.run_unsafeString_row w.drew 70 3 9 5 tpu hcb g cur.size (by have hg' : w.drew.heap[g]? = some (.cells cur 5 (0, 0)) := hg; simp [World.shape?, hg']) l h0 hle hmax hcell
  clear hcell
  go_enter Tryd.func18, Tryd.ntmps18
  go_wp2
  go_region
  all_goals (go_wp2; go_ret; exact ⟨rfl, rfl⟩)

set_option maxHeartbeats 2000000 in
set_option maxRecDepth 100000 in
theorem Tryd.builder_string_nil (b : Nat) (w : World) (hb : w.cell? ⟨b, 1, none⟩ = some (.slice none 0 0)) :
    Calls Tryd.prog 18 #[.pointer (some ⟨b, 0, none⟩)] w fun e w' => e = .returned (.string ⟨#[]⟩) ∧ w' = w.drew := by
  have c1 : w.drew.cell? ⟨b, 1, none⟩ = some (.slice none 0 0) := hb
  have hSD : (Builtin.unsafeSliceData_ #[48] 70 #[.slice none 0 0]).run Tryd.prog w.drew = .ok (.pointer none) w.drew := rfl
  have hUS := Lib.run_unsafeString_none (P := Tryd.prog) w.drew 70 3 9 none
  go_enter Tryd.func18, Tryd.ntmps18
  go_wp2
  go_region
  all_goals (go_wp2; go_ret; exact ⟨rfl, rfl⟩)
end Go.Proofs
