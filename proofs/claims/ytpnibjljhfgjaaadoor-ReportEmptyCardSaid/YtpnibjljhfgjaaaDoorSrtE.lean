/- slices.SortFunc at the edges of a span. -/
import Derived.Test.YtpnibjljhfgjaaaDoorSortM
import Derived.Test.YtpnibjljhfgjaaaDoorSrtL
import Derived.Test.YtpnibjljhfgjaaaDoorE1
set_option linter.unusedVariables false
set_option linter.unusedSimpArgs false
set_option maxRecDepth 100000
namespace Go.Sim.M
/-- An edge: an instant, and two numbers. -/
abbrev Edge : Type := Fin 1099511627777 × Int × Int
def intsE (x : Edge) : List Int := [(x.1.val : Int), x.2.1, x.2.2]
def cmpE (x y : Edge) : Int := (x.1.val : Int) - (y.1.val : Int)
end Go.Sim.M
namespace Go.Proofs
open Go.RowKit Go.Sim Go.Sim.M Go.Sort

set_option maxHeartbeats 1000000 in
theorem Tryd.edge_walk (a b c a' b' c' r : Int) (hr : IntKind.i64.wrap (a - a') = r) (W : World) : Calls Tryd.prog 53 #[.agg #[.int .i64 a, .int .i64 b, .int .i64 c], .agg #[.int .i64 a', .int .i64 b', .int .i64 c']] W fun e w' => e = .returned (.int .i64 r) ∧ ∃ q os', w' = grow (W.drewN q) os' := by
  go_enter Tryd.func53, Tryd.ntmps53
  go_wp2
  go_ret
  subst hr
  exact ⟨rfl, 0, _, by rw [alloc_eq_grow, alloc_eq_grow, grow_grow]; rfl⟩
end Go.Proofs

namespace Go.Sim.M
open Go.RowKit Go.Proofs Go.Sort

def isEdge : AV → Bool
  | .agg [.int .i64 a, .int .i64 _, .int .i64 _] => decide (0 ≤ a) && decide (a ≤ 1099511627776)
  | _ => false
def decE : AV → Edge
  | .agg [.int _ a, .int _ b, .int _ c] => (Fin.ofNat 1099511627777 a.toNat, b, c)
  | _ => default
noncomputable def srtE (xs : List AV) : List AV := (pdqL cmpE (xs.map decE)).map (encI intsE)

theorem dec_enc {x : AV} (h : isEdge x = true) : encI intsE (decE x) = x := by
  unfold isEdge at h
  split at h
  · rename_i a b c
    simp only [Bool.and_eq_true, decide_eq_true_eq] at h
    have : a.toNat % 1099511627777 = a.toNat := Nat.mod_eq_of_lt (by omega)
    simp only [decE, encI, intsE, List.map_cons, List.map_nil, Fin.ofNat, this, Int.toNat_of_nonneg h.1]
  · simp at h
theorem dec_encs {xs : List AV} (h : xs.all isEdge = true) : (xs.map decE).map (encI intsE) = xs := by
  rw [List.map_map]
  conv => rhs; rw [← List.map_id xs]
  refine List.map_congr_left fun x hx => ?_
  exact dec_enc (List.all_eq_true.1 h x hx)

theorem ltE (x y : Edge) : ltOf cmpE x y = decide (x.1.val < y.1.val) := by
  unfold ltOf cmpE
  by_cases h : x.1.val < y.1.val
  · rw [decide_eq_true h, decide_eq_true (by omega)]
  · rw [decide_eq_false h, decide_eq_false (by omega)]
theorem swoE : SWO (ltOf cmpE) where
  irrefl x := by rw [ltE]; simp
  trans x y z h1 h2 := by rw [ltE] at *; simp at *; omega
  ntrans x y z h1 h2 := by rw [ltE] at *; simp at *; omega

noncomputable def slices_SortFunc_o : List AV → List Box → Option (Bool × AV × List Box)
  | [.osl 0 ver 0 n, .func g []], [⟨ver', 3, ty, xs, false, true⟩] =>
    if g = 53 then some (Nat.beq ver ver' && (Nat.beq n xs.length && (decide (n < 4611686018427387904) && xs.all isEdge)), .tuple [], [⟨ver', 3, ty, srtE xs, false, true⟩]) else none
  | _, _ => none

theorem slices_SortFunc_c : OmOk Tryd.prog ITryd 52 slices_SortFunc_o := fun ass H r H' h => by
  unfold slices_SortFunc_o at h
  split at h
  · rename_i ver n g ver' ty xs
    split at h
    case isFalse => simp at h
    rename_i hg
    subst hg
    simp only [Option.some.injEq, Prod.mk.injEq, Bool.and_eq_true, decide_eq_true_eq] at h
    obtain ⟨⟨h1, h2, h3, h4⟩, rfl, rfl⟩ := h
    obtain rfl := Nat.eq_of_beq_eq_true h1
    obtain rfl := Nat.eq_of_beq_eq_true h2
    have hti : ∃ ti, tinfo Tryd.prog 83 = some ti ∧ ti.sz = 3 ∧ ti.agg = true := by
      have h : (match tinfo Tryd.prog 83 with | some ti => (ti.sz == 3) && ti.agg | none => false) = true := by kernel_rfl
      split at h
      · rename_i ti hti
        simp only [Bool.and_eq_true, beq_iff_eq] at h
        exact ⟨ti, hti, h.1, h.2⟩
      · simp at h
    obtain ⟨ti, hti, hz, ha⟩ := hti
    have hgd := sortFunc_good (P := Tryd.prog) (Inv := ITryd) Tryd.lays52 3 (by decide) (fun w => by rw [← ha]; exact run_agg hti w) (fun w => by rw [← hz]; exact run_size hti w)
      intsE (fun _ => rfl) cmpE swoE 53 (enters_of Tryd.func52 rfl (by kernel_rfl)) (callFunc_run (enters_of Tryd.func53 rfl (by kernel_rfl)))
      (fun x y W => Tryd.edge_walk _ _ _ _ _ _ (cmpE x y) (by
        have := x.1.isLt
        have := y.1.isLt
        unfold cmpE
        exact wrap_i64 (by omega) (by omega)) W)
      ver ty (xs.map decE) (by simpa using h3)
    rw [List.length_map, dec_encs h4] at hgd
    exact hgd
  · simp at h

noncomputable def EKS : Env := EE1.withM 52 slices_SortFunc_o
theorem EKS_ok : OrcOk Tryd.prog ITryd EKS := EE1_ok.withM slices_SortFunc_c
end Go.Sim.M
